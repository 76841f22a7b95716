/-
  The walk of ChargePlays: call by call.
-/
import Derived.Test.YtnbeofbkfopehaaStep
import Derived.Test.YtnbeofbkfopehaaLawA
import Derived.WalkKit
import Derived.Deep.DeepMust
import Derived.WalkSpells
import Derived.WalkLawsBesides
import Derived.Handy
import Derived.Lib.Hide
import Derived.Deep.QuietTactic
import Derived.BigQuiet
namespace Go.Proofs.Ytnbeofbkfopehaa
open Go.RowKit

/-- What Used or Most tells of a number. -/
def getF (U : Nat → Int) (x : Int) : Int := if 1 ≤ x ∧ x ≤ 16 then U (x - 1).toNat else 0
theorem used_all (w : World) (b : Nat) (U M : Nat → Int) (hC : ChAt w b U M) (x v : Int) (hv : Hid (getF U x = v)) :
    Calls Try.prog 14 #[.pointer (some ⟨b, 0, none⟩), .int .i64 x] w fun r w' => r = .returned (.int .i64 v) ∧ w' = w := by
  have h := hv.out
  unfold getF at h
  by_cases hx : 1 ≤ x ∧ x ≤ 16
  · rw [if_pos hx] at h
    exact used_ok w b U M hC x _ (by omega) (by omega) v h
  · rw [if_neg hx] at h
    subst h
    exact used_out w b U M hC x (by omega)
theorem most_all (w : World) (b : Nat) (U M : Nat → Int) (hC : ChAt w b U M) (x v : Int) (hv : Hid (getF M x = v)) :
    Calls Try.prog 19 #[.pointer (some ⟨b, 0, none⟩), .int .i64 x] w fun r w' => r = .returned (.int .i64 v) ∧ w' = w := by
  have h := hv.out
  unfold getF at h
  by_cases hx : 1 ≤ x ∧ x ≤ 16
  · rw [if_pos hx] at h
    exact most_ok w b U M hC x _ (by omega) (by omega) v h
  · rw [if_neg hx] at h
    subst h
    exact most_out w b U M hC x (by omega)
theorem rused_all (w : World) (b : Nat) (U M : Nat → Int) (hC : ReAt w b U M) (x v : Int) (hv : Hid (getF U x = v)) :
    Calls Try.prog 18 #[.pointer (some ⟨b, 0, none⟩), .int .i64 x] w fun r w' => r = .returned (.int .i64 v) ∧ w' = w := by
  have h := hv.out
  unfold getF at h
  by_cases hx : 1 ≤ x ∧ x ≤ 16
  · rw [if_pos hx] at h
    obtain ⟨k, hk⟩ : ∃ k, (x - 1).toNat = k := ⟨_, rfl⟩
    rw [hk] at h
    obtain rfl : x = (k : Int) + 1 := by omega
    exact rused_ok w b U M hC k (by omega) v h
  · rw [if_neg hx] at h
    subst h
    exact rused_out w b x hx
theorem rmost_all (w : World) (b : Nat) (U M : Nat → Int) (hC : ReAt w b U M) (x v : Int) (hv : Hid (getF M x = v)) :
    Calls Try.prog 20 #[.pointer (some ⟨b, 0, none⟩), .int .i64 x] w fun r w' => r = .returned (.int .i64 v) ∧ w' = w := by
  have h := hv.out
  unfold getF at h
  by_cases hx : 1 ≤ x ∧ x ≤ 16
  · rw [if_pos hx] at h
    obtain ⟨k, hk⟩ : ∃ k, (x - 1).toNat = k := ⟨_, rfl⟩
    rw [hk] at h
    obtain rfl : x = (k : Int) + 1 := by omega
    exact rmost_ok w b U M hC k (by omega) v h
  · rw [if_neg hx] at h
    subst h
    exact rmost_out w b x hx

theorem step_any (W w : World) (b r : Nat) (U M : Nat → Int) (hF : Fine U M) (hC : ChAt w b U M) (hR : ReAt w r U M) (hbr : b ≠ r) (hB : Below W.heap.size W w) (hb : W.heap.size ≤ b) (hr : W.heap.size ≤ r) (K X N : Int) (PA : Option Addr) (pp : List Int) (L pc : Nat) (hL : Hid (pp.length = L)) (hL8 : L * 8 ≤ 140737488351232) (hP : Hid (RowB W W.heap.size PA (intsV pp))) :
    Calls Try.prog 17 #[.pointer (some ⟨b, 0, none⟩), .pointer (some ⟨r, 0, none⟩), .agg #[.int .i64 K, .int .i64 X, .int .i64 N, .slice PA L pc]] w (StepPost W b r) := by
  have : K % 5 = 0 ∨ K % 5 = 1 ∨ K % 5 = 2 ∨ K % 5 = 3 ∨ K % 5 = 4 := by omega
  rcases this with h | h | h | h | h
  · exact step_0 W w b r U M hF hC hR hbr hB hb hr K X N PA pp L pc hL hL8 hP (Lib.hid h)
  · exact step_1 W w b r U M hF hC hR hbr hB hb hr K X N PA pp L pc hL hL8 hP (Lib.hid h)
  · exact step_2 W w b r U M hF hC hR hbr hB hb hr K X N PA pp L pc hL hL8 hP (Lib.hid h)
  · exact step_3 W w b r U M hF hC hR hbr hB hb hr K X N PA pp L pc hL hL8 hP (Lib.hid h)
  · exact step_4 W w b r U M hF hC hR hbr hB hb hr K X N PA pp L pc hL hL8 hP (Lib.hid h)

set_option maxRecDepth 100000 in
set_option maxHeartbeats 4000000 in
theorem plays_any (l : Nat) (A : Option Addr) (c : Nat) (D : Nat → DoR) (W : World) (hX : Dos W A l D) (hS : Hid (∀ i, i < l → (D i).pp.length * 8 ≤ 140737488351232)) : Calls Try.prog 4 #[.slice A l c] W fun e w' => e = .returned (.bool true) ∧ Below W.heap.size W w' := by
  go_enter Try.func4, Try.ntmps4
  have HX := Lib.hid hX
  clear hX
  go_wp2_with (first | (go_at_call 8; (with_reducible refine (new_any _).mono ?_); rintro r w1 ⟨b, rfl, hC, hb, hB⟩; have hl1 := hC.lt) | (go_at_call 16; (with_reducible refine (rnew_any _).mono ?_); rintro r w2 ⟨r, rfl, hR, hr, hB2⟩; replace hC := hC.below hB2; replace hB := hB.trans (hB2.mono hB.size); clear hB2))
  have hbr : b ≠ r := by omega
  have hr' : W.heap.size ≤ r := by omega
  go_loopw [5, 6] (fun q _ wr => ∃ (i : Nat) (U M : Nat → Int), i ≤ l ∧ i ≤ 100 ∧ q = .int .i64 i ∧ ChAt wr b U M ∧ ReAt wr r U M ∧ Hid (Fine U M) ∧ Below W.heap.size W wr) (fun q _ _ => 100 - (intOf q).toNat)
  case atStart => exact ⟨0, zeroU, mostU, by omega, by omega, rfl, hC, hR, Lib.hid fine_new, hB⟩
  case round =>
    clear hC hB hR
    obtain ⟨i, U, M, hil, hi1, rfl, hC, hR, HF, hB⟩ := hrel
    have hz := hB.size
    have hthree : (i < l ∧ i < 100) ∨ ¬ i < l ∨ (i < l ∧ ¬ i < 100) := by omega
    rcases hthree with ⟨hlt, h100⟩ | hlt | ⟨hlt, h100⟩
    · obtain ⟨g0, off, hA0, hg0, hc⟩ := HX.out (by omega)
      subst hA0
      obtain ⟨e0, e1, e2, e3, e4, -⟩ := hc i hlt
      have hS8 := hS.out i hlt
      obtain ⟨d, hd⟩ : ∃ d, D i = d := ⟨_, rfl⟩
      rw [hd] at e0 e1 e2 e3 e4 hS8
      obtain ⟨K, X, N, PA, pp, pc⟩ := d
      simp only at e0 e1 e2 e3 e4 hS8
      obtain ⟨L, hL⟩ : ∃ L, Hid (pp.length = L) := ⟨_, Lib.hid rfl⟩
      rw [hL.out] at e3 hS8
      have c0 := (hB.cell (p := ⟨g0, _, none⟩) hg0).trans e0
      have c1 := (hB.cell (p := ⟨g0, _, none⟩) hg0).trans e1
      have c2 := (hB.cell (p := ⟨g0, _, none⟩) hg0).trans e2
      have c3 := (hB.cell (p := ⟨g0, _, none⟩) hg0).trans e3
      have HP : Hid (RowB W W.heap.size PA (intsV pp)) := Lib.hid e4.toB
      clear e0 e1 e2 e3 e4 hd hc
      have i0 : (0 : Int) ≤ (i : Int) := by omega
      have i1 : (i : Int) < (l : Int) := by omega
      have i2 : (i : Int) < 100 := by omega
      go_wp2_with (first | (go_at_call 17; (with_reducible refine (step_any W _ b r U M HF.out hC hR hbr hB hb hr' K X N PA pp L pc hL (by omega) HP).mono ?_); rintro e w3 ⟨rfl, U', M', hF', hC', hR', hB'⟩; clear hC hR hB))
      have HF' := Lib.hid hF'
      clear hF'
      have hz' := hB'.size
      go_loopw [6] (fun q wr => ∃ j : Nat, j ≤ 20 ∧ q = .int .i64 ((j : Int) - 1) ∧ wr = w3) (fun q _ => 19 - (intOf q)|>.toNat)
      case atStart => exact ⟨0, by omega, by go_num, rfl⟩
      case round =>
        obtain ⟨j, hj, rfl, hww⟩ := hrel
        subst hww
        by_cases hj20 : j < 20
        · obtain ⟨u, Hu⟩ : ∃ u, Hid (getF U' ((j : Int) - 1) = u) := ⟨_, Lib.hid rfl⟩
          obtain ⟨v, Hv⟩ : ∃ v, Hid (getF M' ((j : Int) - 1) = v) := ⟨_, Lib.hid rfl⟩
          have j1 : (j : Int) - 1 < 19 := by omega
          have j0 : -1 ≤ (j : Int) - 1 := by omega
          go_wp2_with (first | (go_at_call 14; (with_reducible refine (used_all _ b U' M' hC' ((j : Int) - 1) u Hu).mono ?_); rintro e w0 ⟨rfl, hw0⟩; replace hw0 := hw0.symm; subst hw0) | (go_at_call 19; (with_reducible refine (most_all _ b U' M' hC' ((j : Int) - 1) v Hv).mono ?_); rintro e w0 ⟨rfl, hw0⟩; replace hw0 := hw0.symm; subst hw0) | (go_at_call 18; (with_reducible refine (rused_all _ r U' M' hR' ((j : Int) - 1) u Hu).mono ?_); rintro e w0 ⟨rfl, hw0⟩; replace hw0 := hw0.symm; subst hw0) | (go_at_call 20; (with_reducible refine (rmost_all _ r U' M' hR' ((j : Int) - 1) v Hv).mono ?_); rintro e w0 ⟨rfl, hw0⟩; replace hw0 := hw0.symm; subst hw0))
          go_roundw
          case rel => exact ⟨j + 1, by omega, by go_num, trivial⟩
          case measure => simp [intOf]; omega
        · have j1 : ¬ (j : Int) - 1 < 19 := by omega
          go_wp2
          go_roundw
          case rel => exact ⟨i + 1, U', M', by omega, by omega, by go_num, hC', hR', HF', hB'⟩
          case measure => simp [intOf]; omega
    all_goals
      go_wp2_with (first | (go_at_call 15; (with_reducible refine (works_any _).mono ?_); rintro e w6 ⟨rfl, hb6⟩))
      go_ret
      exact ⟨rfl, hB.trans (hb6.mono hz)⟩

end Go.Proofs.Ytnbeofbkfopehaa
