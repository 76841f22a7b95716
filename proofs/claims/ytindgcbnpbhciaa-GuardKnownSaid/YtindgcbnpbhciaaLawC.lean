/-
  The walk of GuardRound: Out, anything written, and Back.
-/
import Derived.Test.YtindgcbnpbhciaaLawB
import Derived.Test.YtindgcbnpbhciaaBring
import Derived.WalkKit
import Derived.Deep.DeepMust
import Derived.WalkSpells
import Derived.WalkLawsBesides
import Derived.Handy
import Derived.Lib.Hide
import Derived.Deep.QuietTactic
import Derived.BigQuiet
namespace Go.Proofs.Ytindgcbnpbhciaa
open Go.RowKit

set_option maxRecDepth 100000 in
set_option maxHeartbeats 4000000 in
theorem round_any (z : Int) (xs : List Int) (n : Nat) (hn : Hid (xs.length = n)) (A : Option Addr) (c : Nat) (hm : n ≤ 9223372036854775807) (y : Int) (w : World) (hA : Row w A (bV xs)) : Calls Try.prog 6 #[.int .i64 z, .slice A n c, .int .i64 y] w fun e w' => e = .returned (.bool true) ∧ Below w.heap.size w w' := by
  have HA := Lib.hid hA
  obtain ⟨h, Hz⟩ : ∃ h : Nat, Hid (z % 1024 = (h : Int)) := ⟨(z % 1024).toNat, Lib.hid (by omega)⟩
  have hh : h < 1024 := by have := Hz.out; omega
  obtain ⟨N, hN⟩ : ∃ N, Hid (1 + h + 16 = N) := ⟨_, Lib.hid rfl⟩
  have hN1 : N ≤ 1040 := by have := hN.out; omega
  have hNi : (N : Int) = 1 + (h : Int) + 16 := by have := hN.out; omega
  obtain ⟨p, Hp⟩ : ∃ p : Nat, Hid (y % (1 + (h : Int)) = (p : Int)) := ⟨(y % (1 + (h : Int))).toNat, Lib.hid (by have := Int.emod_nonneg y (b := 1 + (h : Int)) (by omega); omega)⟩
  have hp : p < 1 + h := by
    have h1 := Hp.out
    have h2 := Int.emod_lt_of_pos y (b := 1 + (h : Int)) (by omega)
    omega
  have HNi := Lib.hid hNi
  have e1 : Hid (chkE false (layL (1 + h) 187 107 165) = 0) := Lib.hid (lay_in (by omega) (by omega))
  have l1 : Hid ((layL (1 + h) 187 107 165).length = N) := Lib.hid (by rw [layL_len]; exact hN.out)
  have l2 : Hid ((layL (1 + h) 204 90 90).length = N) := Lib.hid (by rw [layL_len]; exact hN.out)
  have by1 : Hid (By (layL (1 + h) 187 107 165)) := Lib.hid (layL_by (by omega) (by omega) (by omega))
  have t0 : ((N : Int) != 1 + (h : Int) + 16) = false := by rw [hNi]; simp
  have HO : Hid (∀ k, k < N → (k < 8 ∨ 1 + h + 8 ≤ k) → (layL (1 + h) 204 90 90)[k]? = some 204) := Lib.hid (fun k hk hq => by
    rw [layL_at (by have := hN.out; omega)]
    unfold layF
    rw [if_pos (by omega)])
  clear hA hNi
  go_enter Try.func6, Try.ntmps6
  go_wp2_with (first | (go_at_call 12; (with_reducible refine (works_any _).mono ?_); rintro r w0 ⟨rfl, hb0⟩; have q0 := HA.out.below hb0; have z0 := hb0.size) | (go_at_call 20; (with_reducible refine (bring_any z 1024 (by omega) (by omega) _).mono ?_); rintro e wq ⟨rfl, hwq⟩; replace hwq := hwq.symm; subst hwq; rw [Hz.out]) | (go_at_call 20; (with_reducible refine (bring_any y (1 + (h : Int)) (by omega) (by omega) _).mono ?_); rintro e wq ⟨rfl, hwq⟩; replace hwq := hwq.symm; subst hwq; rw [Hp.out]) | (go_at_call 9; (with_reducible refine (lay_at (1 + h) N (1 + (h : Int)) (by omega) hN.out (by omega) (by omega) _).mono ?_); rintro e w1 ⟨g1, c1, rfl, hc1, hg1, hM1, hb1⟩; have q1 := q0.below hb1; replace hb1 := hb0.trans (hb1.mono z0); have z1 := hb1.size) | (go_at_call 16; (with_reducible refine (out_at _ (some ⟨g1, 0, none⟩) (1 + h) N c1 hN.out _ l1 hc1 (by omega) hM1.row e1).mono ?_); rintro e w2 ⟨g2, c2, rfl, hc2, hg2, hM2, hb2⟩; have gl1 := hM1.lt; replace hM1 := hM1.below hb2; have q2 := q1.below hb2; replace hb2 := hb1.trans (hb2.mono z1); have z2 := hb2.size))
  have hne : g1 ≠ g2 := by omega
  have hgz : w.heap.size ≤ g2 := by omega
  have k0 : (0 : Int) ≤ (p : Int) := by omega
  have k1 : (p : Int) ≤ 1023 := by omega
  have k2 : (h : Int) ≤ 1023 := by omega
  have k3 : (0 : Int) ≤ (h : Int) := by omega
  go_loopw [11] (fun q wr => ∃ (i : Nat) (l : List Int), i ≤ n ∧ p + i ≤ 1 + h ∧ q = .int .i64 i ∧ Hid (l.length = N) ∧ Hid (∀ k, k < N → (k < 8 ∨ 1 + h + 8 ≤ k) → l[k]? = some 204) ∧ RowM wr g1 (layL (1 + h) 187 107 165) ∧ RowM wr g2 l ∧ Below w.heap.size w wr) (fun q _ => n - (intOf q).toNat)
  case atStart => exact ⟨0, _, by omega, by omega, rfl, l2, HO, hM1, hM2, hb2⟩
  case round =>
    clear hM1 hM2 hb2 HO q0 q1 q2
    obtain ⟨i, l, hi, hpi1, rfl, hl, HO, hM1, hM2, hb2⟩ := hrel
    have hzz := hb2.size
    have i0 : (0 : Int) ≤ (i : Int) := by omega
    have i9 : (i : Int) ≤ 1024 := by omega
    have hthree : (i < n ∧ p + i < 1 + h) ∨ ¬ i < n ∨ (i < n ∧ ¬ p + i < 1 + h) := by omega
    rcases hthree with ⟨hlt, hpi⟩ | hlt | ⟨hlt, hpi⟩
    · have hxl : i < xs.length := by rw [hn.out]; exact hlt
      obtain ⟨b, off, rfl, hbl, hc⟩ := HA.out (by rw [bV_len]; omega)
      have cA := (hb2.cell (p := ⟨b, off + i, none⟩) hbl).trans (hc i _ (bV_at hxl))
      obtain ⟨x, hx⟩ : ∃ x, xs[i] = x := ⟨_, rfl⟩
      rw [hx] at cA
      have hkl : 8 + p + i < l.length := by have := hN.out; rw [hl.out]; omega
      have c0 := hM2.cell (8 + p + i) _ (List.getElem?_eq_getElem hkl)
      obtain ⟨u, hu⟩ : ∃ u, l[8 + p + i] = u := ⟨_, rfl⟩
      rw [hu] at c0
      have f0 := hM2.frz (8 + p + i)
      have HM2 := Lib.hid (hM2.set hkl x)
      have HM1 := Lib.hid (hM1.far (p := ⟨g2, 8 + p + i, none⟩) hne (.int .u8 x))
      have HON : Hid (∀ k, k < N → (k < 8 ∨ 1 + h + 8 ≤ k) → (l.set (8 + p + i) x)[k]? = some 204) := Lib.hid (fun k hk hq => by
        rw [List.getElem?_set, if_neg (by omega)]
        exact HO.out k hk hq)
      have i1 : (i : Int) < (n : Int) := by omega
      have i2 : (p : Int) + (i : Int) < 1 + (h : Int) := by omega
      have i3 : (8 : Int) + (p : Int) + (i : Int) < (N : Int) := by have := HNi.out; omega
      clear hM1 hM2 hx hu hc hkl hxl
      go_wp2
      go_roundw
      case rel => exact ⟨i + 1, l.set (8 + p + i) x, by omega, by omega, by go_num, Lib.hid (by rw [List.length_set]; exact hl.out), HON, HM1.out, HM2.out, hb2.setCell hgz _⟩
      case measure => simp [intOf]; omega
    all_goals
      first | have i1 : ¬ (i : Int) < (n : Int) := by omega | have i1 : (i : Int) < (n : Int) := by omega
      try have i2 : ¬ (p : Int) + (i : Int) < 1 + (h : Int) := by omega
      have e2 : Hid (chkE true l = 0) := Lib.hid (out_in (s := 1 + h) (by rw [hl.out]; exact hN.out.symm) (by omega) (by omega) (fun k hk hq => HO.out k (by have := hN.out; omega) hq))
      go_wp2_with (first | (go_at_call 18; (with_reducible refine (back_at _ (some ⟨g2, 0, none⟩) (1 + h) N c2 hN.out _ hl hc2 (by omega) (by omega) hM2.row e2).mono ?_); rintro e w3 ⟨g3, c3, rfl, hc3, hg3, hM3, hb3⟩; replace hM1 := hM1.below hb3; replace hb3 := hb2.trans (hb3.mono hzz)) | (go_at_call 11; (with_reducible refine (eqB (layL (1 + h) 187 107 165) (layL (1 + h) 187 107 165) N N true l1.out l1.out by1.out by1.out (decide_eq_true rfl) _ _ _ _ _ hM3.row hM1.row).mono ?_); rintro e wq ⟨rfl, hwq⟩; replace hwq := hwq.symm; subst hwq))
      go_ret
      exact ⟨rfl, hb3⟩

end Go.Proofs.Ytindgcbnpbhciaa
