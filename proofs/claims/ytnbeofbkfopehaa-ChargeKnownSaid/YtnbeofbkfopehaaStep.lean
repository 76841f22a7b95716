/-
  step: a call of both.
-/
import Derived.Test.YtnbeofbkfopehaaRefC
import Derived.Test.YtnbeofbkfopehaaSums
import Derived.Test.YtnbeofbkfopehaaCopyInts
import Derived.Deep.RegionHeld3
import Derived.WalkKit
import Derived.Deep.DeepMust
import Derived.WalkSpells
import Derived.WalkLawsBesides
import Derived.Handy
import Derived.Lib.Hide
import Derived.Deep.QuietTactic
import Derived.BigQuiet
namespace Go.Proofs.Ytnbeofbkfopehaa
open Go.RowKit

theorem eqI (xs ys : List Int) (n m : Nat) (r : Bool) (hn : xs.length = n) (hm : ys.length = m) (hn' : n ≤ 9223372036854775807) (hm' : m ≤ 9223372036854775807) (hr : decide (xs = ys) = r) (A B : Option Addr) (c d : Nat) (w : World)
    (hA : Row w A (intsV xs)) (hB : Row w B (intsV ys)) : Calls Try.prog 32 #[.slice A n c, .slice B m d] w fun e w' => e = .returned (.bool r) ∧ Below w.heap.size w w' := by
  subst hn hm hr
  exact eqInts_any xs ys A B c d w hn' hm' hA hB
theorem ints_one (xs : List Int) : ∀ u ∈ intsV xs, u.oneCell' = true := fun u hu => by
  obtain ⟨x, -, rfl⟩ := List.mem_map.1 hu
  rfl
theorem RowB.off {w : World} {B : Nat} {A : Option Addr} {xs : List Value} (h : RowB w B A xs) (hp : 0 < xs.length) {b : Nat} (hb : B ≤ b) : ∀ g off, A = some ⟨g, off, none⟩ → g ≠ b := fun g off e => by
  obtain ⟨g', off', e', hl, -⟩ := h hp
  rw [e] at e'
  simp only [Option.some.injEq, Addr.mk.injEq] at e'
  obtain ⟨rfl, -, -⟩ := e'
  omega

/-- What step leaves. -/
def StepPost (W : World) (b r : Nat) (e : Ending) (w' : World) : Prop :=
  e = .returned (.bool true) ∧ ∃ U M, Fine U M ∧ ChAt w' b U M ∧ ReAt w' r U M ∧ Below W.heap.size W w'

set_option maxRecDepth 100000 in
set_option maxHeartbeats 4000000 in
theorem step_0 (W w : World) (b r : Nat) (U M : Nat → Int) (hF : Fine U M) (hC : ChAt w b U M) (hR : ReAt w r U M) (hbr : b ≠ r) (hB : Below W.heap.size W w) (hb : W.heap.size ≤ b) (hr : W.heap.size ≤ r) (K X N : Int) (PA : Option Addr) (pp : List Int) (L pc : Nat) (hL : Hid (pp.length = L)) (hL8 : L * 8 ≤ 140737488351232) (hP : Hid (RowB W W.heap.size PA (intsV pp))) (hK : Hid (K % 5 = 0)) :
    Calls Try.prog 17 #[.pointer (some ⟨b, 0, none⟩), .pointer (some ⟨r, 0, none⟩), .agg #[.int .i64 K, .int .i64 X, .int .i64 N, .slice PA L pc]] w (StepPost W b r) := by
  have hbl := hC.lt
  have hrl := hR.lt
  have hXb : w.heap.size ≠ b := by omega
  have hXr : w.heap.size ≠ r := by omega
  have hX := Blk.new w 29 #[.int .i64 K, .int .i64 X, .int .i64 N, .slice PA L pc]
  have hB := hB.alloc hB.size (.cells #[.int .i64 K, .int .i64 X, .int .i64 N, .slice PA L pc] 29)
  have hC := hC.alloc (.cells #[.int .i64 K, .int .i64 X, .int .i64 N, .slice PA L pc] 29)
  have hR := hR.alloc (.cells #[.int .i64 K, .int .i64 X, .int .i64 N, .slice PA L pc] 29)
  have HPR := Lib.hid ((hP.out.below hB).row hB.size)
  obtain ⟨E, hE⟩ : ∃ x, Hid (askF [X] N = x) := ⟨_, Lib.hid rfl⟩
  obtain ⟨M', hM'⟩ : ∃ x, Hid (limM M X N = x) := ⟨_, Lib.hid rfl⟩
  go_enter Try.func17, Try.ntmps17
  go_wp2_with (first | (go_at_call 9; (with_reducible refine (bring_any K 5 (by omega) (by omega) _).mono ?_); rintro e w0 ⟨rfl, hw0⟩; replace hw0 := hw0.symm; subst hw0; rw [hK.out]) | (go_at_call 26; (with_reducible refine (copyInts_any (intsV pp) (ints_one pp) PA L pc _ (by rw [intsV_len]; exact hL.out) (by omega) HPR.out).mono ?_); rintro e w1 ⟨v1, rfl, ho1, hb1⟩; obtain ⟨A1, c1, rfl, hq1, hg1⟩ := Row.slice2 ho1; clear ho1; have z1 := hb1.size; rw [World.size_alloc] at z1; have HG : Hid (∀ g off, A1 = some ⟨g, off, none⟩ → g ≠ b ∧ g ≠ r) := Lib.hid (fun g off e => by have := hg1 g off e; rw [World.size_alloc] at this; omega); clear hg1; replace hC := hC.below hb1; replace hR := hR.below hb1; replace hX := hX.below hb1; replace hB := hB.trans (hb1.mono hB.size); clear hb1; have e0 : w1.cell? ⟨w.heap.size, 0, none⟩ = some (.int .i64 K) := hX.cell 0; have e1 : w1.cell? ⟨w.heap.size, 1, none⟩ = some (.int .i64 X) := hX.cell 1; have e2 : w1.cell? ⟨w.heap.size, 2, none⟩ = some (.int .i64 N) := hX.cell 2; have e3 : w1.cell? ⟨w.heap.size, 3, none⟩ = some (.slice PA L pc) := hX.cell 3))
  have hC := hC.drew
  have hR := hR.drew
  have hX := hX.drew
  have hB := hB.drew
  have hq1 := hq1.drew
  have x1 : w1.drew.cell? ⟨w.heap.size, 1, none⟩ = some (.int .i64 X) := hX.cell 1
  have x2 : w1.drew.cell? ⟨w.heap.size, 2, none⟩ = some (.int .i64 N) := hX.cell 2
  go_region_held3 (fun w' => w'.cell? ⟨w.heap.size, 1, none⟩ = some (.int .i64 X) ∧ w'.cell? ⟨w.heap.size, 2, none⟩ = some (.int .i64 N)) (exact ⟨by assumption, by assumption⟩) (first | (go_at_call 10; (with_reducible refine (limit_all _ b U M hC X N E hE M' hM').mono ?_); rintro e w4 ⟨rfl, hN, hT⟩; replace hB := hT.below hB hb hB.size; replace hX := hX.one hT hXb; replace hR := hR.one hT hbr.symm; replace hq1 := hq1.one hT (fun _ g off e => (HG.out g off e).1); clear hT hC; have hC := hN; clear hN; have y1 : w4.cell? ⟨w.heap.size, 1, none⟩ = some (.int .i64 X) := hX.cell 1; have y2 : w4.cell? ⟨w.heap.size, 2, none⟩ = some (.int .i64 N) := hX.cell 2; have y3 : w4.cell? ⟨w.heap.size, 3, none⟩ = some (.slice PA L pc) := hX.cell 3) | (go_at_call 27; (with_reducible refine (rlimit_all _ r U M hR hF X N E hE M' hM').mono ?_); rintro e w5 ⟨rfl, hN, hT⟩; replace hB := hT.below hB hr hB.size; replace hX := hX.one hT hXr; replace hC := hC.one hT hbr; replace hq1 := hq1.one hT (fun _ g off e => (HG.out g off e).2); clear hT hR; have hR := hN; clear hN; have y1 : w5.cell? ⟨w.heap.size, 1, none⟩ = some (.int .i64 X) := hX.cell 1; have y2 : w5.cell? ⟨w.heap.size, 2, none⟩ = some (.int .i64 N) := hX.cell 2; have y3 : w5.cell? ⟨w.heap.size, 3, none⟩ = some (.slice PA L pc) := hX.cell 3))
  all_goals go_wp2_with (first | (go_at_call 32; (with_reducible refine (eqI pp pp L L true hL.out hL.out (by omega) (by omega) (decide_eq_true rfl) _ _ _ _ _ hq1 ((hP.out.below hB).row hB.size)).mono ?_); rintro e w6 ⟨rfl, hb6⟩; replace hC := hC.below hb6; replace hR := hR.below hb6; replace hB := hB.trans (hb6.mono hB.size); clear hb6))
  all_goals go_ret
  all_goals exact ⟨rfl, U, M', by rw [← hM'.out]; exact fine_limM hF X N, hC, hR, hB⟩

set_option maxRecDepth 100000 in
set_option maxHeartbeats 4000000 in
theorem step_1 (W w : World) (b r : Nat) (U M : Nat → Int) (hF : Fine U M) (hC : ChAt w b U M) (hR : ReAt w r U M) (hbr : b ≠ r) (hB : Below W.heap.size W w) (hb : W.heap.size ≤ b) (hr : W.heap.size ≤ r) (K X N : Int) (PA : Option Addr) (pp : List Int) (L pc : Nat) (hL : Hid (pp.length = L)) (hL8 : L * 8 ≤ 140737488351232) (hP : Hid (RowB W W.heap.size PA (intsV pp))) (hK : Hid (K % 5 = 1)) :
    Calls Try.prog 17 #[.pointer (some ⟨b, 0, none⟩), .pointer (some ⟨r, 0, none⟩), .agg #[.int .i64 K, .int .i64 X, .int .i64 N, .slice PA L pc]] w (StepPost W b r) := by
  have hbl := hC.lt
  have hrl := hR.lt
  have hXb : w.heap.size ≠ b := by omega
  have hXr : w.heap.size ≠ r := by omega
  have hX := Blk.new w 29 #[.int .i64 K, .int .i64 X, .int .i64 N, .slice PA L pc]
  have hB := hB.alloc hB.size (.cells #[.int .i64 K, .int .i64 X, .int .i64 N, .slice PA L pc] 29)
  have hC := hC.alloc (.cells #[.int .i64 K, .int .i64 X, .int .i64 N, .slice PA L pc] 29)
  have hR := hR.alloc (.cells #[.int .i64 K, .int .i64 X, .int .i64 N, .slice PA L pc] 29)
  have HPR := Lib.hid ((hP.out.below hB).row hB.size)
  obtain ⟨E, hE⟩ : ∃ x, Hid (upE U M X N = x) := ⟨_, Lib.hid rfl⟩
  obtain ⟨U', hU'⟩ : ∃ x, Hid (upU U M X N = x) := ⟨_, Lib.hid rfl⟩
  go_enter Try.func17, Try.ntmps17
  go_wp2_with (first | (go_at_call 9; (with_reducible refine (bring_any K 5 (by omega) (by omega) _).mono ?_); rintro e w0 ⟨rfl, hw0⟩; replace hw0 := hw0.symm; subst hw0; rw [hK.out]) | (go_at_call 26; (with_reducible refine (copyInts_any (intsV pp) (ints_one pp) PA L pc _ (by rw [intsV_len]; exact hL.out) (by omega) HPR.out).mono ?_); rintro e w1 ⟨v1, rfl, ho1, hb1⟩; obtain ⟨A1, c1, rfl, hq1, hg1⟩ := Row.slice2 ho1; clear ho1; have z1 := hb1.size; rw [World.size_alloc] at z1; have HG : Hid (∀ g off, A1 = some ⟨g, off, none⟩ → g ≠ b ∧ g ≠ r) := Lib.hid (fun g off e => by have := hg1 g off e; rw [World.size_alloc] at this; omega); clear hg1; replace hC := hC.below hb1; replace hR := hR.below hb1; replace hX := hX.below hb1; replace hB := hB.trans (hb1.mono hB.size); clear hb1; have e0 : w1.cell? ⟨w.heap.size, 0, none⟩ = some (.int .i64 K) := hX.cell 0; have e1 : w1.cell? ⟨w.heap.size, 1, none⟩ = some (.int .i64 X) := hX.cell 1; have e2 : w1.cell? ⟨w.heap.size, 2, none⟩ = some (.int .i64 N) := hX.cell 2; have e3 : w1.cell? ⟨w.heap.size, 3, none⟩ = some (.slice PA L pc) := hX.cell 3))
  have hC := hC.drew
  have hR := hR.drew
  have hX := hX.drew
  have hB := hB.drew
  have hq1 := hq1.drew
  have x1 : w1.drew.cell? ⟨w.heap.size, 1, none⟩ = some (.int .i64 X) := hX.cell 1
  have x2 : w1.drew.cell? ⟨w.heap.size, 2, none⟩ = some (.int .i64 N) := hX.cell 2
  go_region_held3 (fun w' => w'.cell? ⟨w.heap.size, 1, none⟩ = some (.int .i64 X) ∧ w'.cell? ⟨w.heap.size, 2, none⟩ = some (.int .i64 N)) (exact ⟨by assumption, by assumption⟩) (first | (go_at_call 21; (with_reducible refine (up_all _ b U M hC hF X N E hE U' hU').mono ?_); rintro e w4 ⟨rfl, hN, hT⟩; replace hB := hT.below hB hb hB.size; replace hX := hX.one hT hXb; replace hR := hR.one hT hbr.symm; replace hq1 := hq1.one hT (fun _ g off e => (HG.out g off e).1); clear hT hC; have hC := hN; clear hN; have y1 : w4.cell? ⟨w.heap.size, 1, none⟩ = some (.int .i64 X) := hX.cell 1; have y2 : w4.cell? ⟨w.heap.size, 2, none⟩ = some (.int .i64 N) := hX.cell 2; have y3 : w4.cell? ⟨w.heap.size, 3, none⟩ = some (.slice PA L pc) := hX.cell 3) | (go_at_call 28; (with_reducible refine (rup_all _ r U M hR hF X N E hE U' hU').mono ?_); rintro e w5 ⟨rfl, hN, hT⟩; replace hB := hT.below hB hr hB.size; replace hX := hX.one hT hXr; replace hC := hC.one hT hbr; replace hq1 := hq1.one hT (fun _ g off e => (HG.out g off e).2); clear hT hR; have hR := hN; clear hN; have y1 : w5.cell? ⟨w.heap.size, 1, none⟩ = some (.int .i64 X) := hX.cell 1; have y2 : w5.cell? ⟨w.heap.size, 2, none⟩ = some (.int .i64 N) := hX.cell 2; have y3 : w5.cell? ⟨w.heap.size, 3, none⟩ = some (.slice PA L pc) := hX.cell 3))
  all_goals go_wp2_with (first | (go_at_call 32; (with_reducible refine (eqI pp pp L L true hL.out hL.out (by omega) (by omega) (decide_eq_true rfl) _ _ _ _ _ hq1 ((hP.out.below hB).row hB.size)).mono ?_); rintro e w6 ⟨rfl, hb6⟩; replace hC := hC.below hb6; replace hR := hR.below hb6; replace hB := hB.trans (hb6.mono hB.size); clear hb6))
  all_goals go_ret
  all_goals exact ⟨rfl, U', M, by rw [← hU'.out]; exact fine_upU hF X N, hC, hR, hB⟩

set_option maxRecDepth 100000 in
set_option maxHeartbeats 4000000 in
theorem step_2 (W w : World) (b r : Nat) (U M : Nat → Int) (hF : Fine U M) (hC : ChAt w b U M) (hR : ReAt w r U M) (hbr : b ≠ r) (hB : Below W.heap.size W w) (hb : W.heap.size ≤ b) (hr : W.heap.size ≤ r) (K X N : Int) (PA : Option Addr) (pp : List Int) (L pc : Nat) (hL : Hid (pp.length = L)) (hL8 : L * 8 ≤ 140737488351232) (hP : Hid (RowB W W.heap.size PA (intsV pp))) (hK : Hid (K % 5 = 2)) :
    Calls Try.prog 17 #[.pointer (some ⟨b, 0, none⟩), .pointer (some ⟨r, 0, none⟩), .agg #[.int .i64 K, .int .i64 X, .int .i64 N, .slice PA L pc]] w (StepPost W b r) := by
  have hbl := hC.lt
  have hrl := hR.lt
  have hXb : w.heap.size ≠ b := by omega
  have hXr : w.heap.size ≠ r := by omega
  have hX := Blk.new w 29 #[.int .i64 K, .int .i64 X, .int .i64 N, .slice PA L pc]
  have hB := hB.alloc hB.size (.cells #[.int .i64 K, .int .i64 X, .int .i64 N, .slice PA L pc] 29)
  have hC := hC.alloc (.cells #[.int .i64 K, .int .i64 X, .int .i64 N, .slice PA L pc] 29)
  have hR := hR.alloc (.cells #[.int .i64 K, .int .i64 X, .int .i64 N, .slice PA L pc] 29)
  have HPR := Lib.hid ((hP.out.below hB).row hB.size)
  obtain ⟨E, hE⟩ : ∃ x, Hid (dnE U X N = x) := ⟨_, Lib.hid rfl⟩
  obtain ⟨U', hU'⟩ : ∃ x, Hid (dnU U X N = x) := ⟨_, Lib.hid rfl⟩
  go_enter Try.func17, Try.ntmps17
  go_wp2_with (first | (go_at_call 9; (with_reducible refine (bring_any K 5 (by omega) (by omega) _).mono ?_); rintro e w0 ⟨rfl, hw0⟩; replace hw0 := hw0.symm; subst hw0; rw [hK.out]) | (go_at_call 26; (with_reducible refine (copyInts_any (intsV pp) (ints_one pp) PA L pc _ (by rw [intsV_len]; exact hL.out) (by omega) HPR.out).mono ?_); rintro e w1 ⟨v1, rfl, ho1, hb1⟩; obtain ⟨A1, c1, rfl, hq1, hg1⟩ := Row.slice2 ho1; clear ho1; have z1 := hb1.size; rw [World.size_alloc] at z1; have HG : Hid (∀ g off, A1 = some ⟨g, off, none⟩ → g ≠ b ∧ g ≠ r) := Lib.hid (fun g off e => by have := hg1 g off e; rw [World.size_alloc] at this; omega); clear hg1; replace hC := hC.below hb1; replace hR := hR.below hb1; replace hX := hX.below hb1; replace hB := hB.trans (hb1.mono hB.size); clear hb1; have e0 : w1.cell? ⟨w.heap.size, 0, none⟩ = some (.int .i64 K) := hX.cell 0; have e1 : w1.cell? ⟨w.heap.size, 1, none⟩ = some (.int .i64 X) := hX.cell 1; have e2 : w1.cell? ⟨w.heap.size, 2, none⟩ = some (.int .i64 N) := hX.cell 2; have e3 : w1.cell? ⟨w.heap.size, 3, none⟩ = some (.slice PA L pc) := hX.cell 3))
  have hC := hC.drew
  have hR := hR.drew
  have hX := hX.drew
  have hB := hB.drew
  have hq1 := hq1.drew
  have x1 : w1.drew.cell? ⟨w.heap.size, 1, none⟩ = some (.int .i64 X) := hX.cell 1
  have x2 : w1.drew.cell? ⟨w.heap.size, 2, none⟩ = some (.int .i64 N) := hX.cell 2
  go_region_held3 (fun w' => w'.cell? ⟨w.heap.size, 1, none⟩ = some (.int .i64 X) ∧ w'.cell? ⟨w.heap.size, 2, none⟩ = some (.int .i64 N)) (exact ⟨by assumption, by assumption⟩) (first | (go_at_call 22; (with_reducible refine (down_all _ b U M hC hF X N E hE U' hU').mono ?_); rintro e w4 ⟨rfl, hN, hT⟩; replace hB := hT.below hB hb hB.size; replace hX := hX.one hT hXb; replace hR := hR.one hT hbr.symm; replace hq1 := hq1.one hT (fun _ g off e => (HG.out g off e).1); clear hT hC; have hC := hN; clear hN; have y1 : w4.cell? ⟨w.heap.size, 1, none⟩ = some (.int .i64 X) := hX.cell 1; have y2 : w4.cell? ⟨w.heap.size, 2, none⟩ = some (.int .i64 N) := hX.cell 2; have y3 : w4.cell? ⟨w.heap.size, 3, none⟩ = some (.slice PA L pc) := hX.cell 3) | (go_at_call 29; (with_reducible refine (rdown_all _ r U M hR hF X N E hE U' hU').mono ?_); rintro e w5 ⟨rfl, hN, hT⟩; replace hB := hT.below hB hr hB.size; replace hX := hX.one hT hXr; replace hC := hC.one hT hbr; replace hq1 := hq1.one hT (fun _ g off e => (HG.out g off e).2); clear hT hR; have hR := hN; clear hN; have y1 : w5.cell? ⟨w.heap.size, 1, none⟩ = some (.int .i64 X) := hX.cell 1; have y2 : w5.cell? ⟨w.heap.size, 2, none⟩ = some (.int .i64 N) := hX.cell 2; have y3 : w5.cell? ⟨w.heap.size, 3, none⟩ = some (.slice PA L pc) := hX.cell 3))
  all_goals go_wp2_with (first | (go_at_call 32; (with_reducible refine (eqI pp pp L L true hL.out hL.out (by omega) (by omega) (decide_eq_true rfl) _ _ _ _ _ hq1 ((hP.out.below hB).row hB.size)).mono ?_); rintro e w6 ⟨rfl, hb6⟩; replace hC := hC.below hb6; replace hR := hR.below hb6; replace hB := hB.trans (hb6.mono hB.size); clear hb6))
  all_goals go_ret
  all_goals exact ⟨rfl, U', M, by rw [← hU'.out]; exact fine_dnU hF X N, hC, hR, hB⟩

set_option maxRecDepth 100000 in
set_option maxHeartbeats 4000000 in
theorem step_3 (W w : World) (b r : Nat) (U M : Nat → Int) (hF : Fine U M) (hC : ChAt w b U M) (hR : ReAt w r U M) (hbr : b ≠ r) (hB : Below W.heap.size W w) (hb : W.heap.size ≤ b) (hr : W.heap.size ≤ r) (K X N : Int) (PA : Option Addr) (pp : List Int) (L pc : Nat) (hL : Hid (pp.length = L)) (hL8 : L * 8 ≤ 140737488351232) (hP : Hid (RowB W W.heap.size PA (intsV pp))) (hK : Hid (K % 5 = 3)) :
    Calls Try.prog 17 #[.pointer (some ⟨b, 0, none⟩), .pointer (some ⟨r, 0, none⟩), .agg #[.int .i64 K, .int .i64 X, .int .i64 N, .slice PA L pc]] w (StepPost W b r) := by
  have hbl := hC.lt
  have hrl := hR.lt
  have hXb : w.heap.size ≠ b := by omega
  have hXr : w.heap.size ≠ r := by omega
  have hX := Blk.new w 29 #[.int .i64 K, .int .i64 X, .int .i64 N, .slice PA L pc]
  have hB := hB.alloc hB.size (.cells #[.int .i64 K, .int .i64 X, .int .i64 N, .slice PA L pc] 29)
  have hC := hC.alloc (.cells #[.int .i64 K, .int .i64 X, .int .i64 N, .slice PA L pc] 29)
  have hR := hR.alloc (.cells #[.int .i64 K, .int .i64 X, .int .i64 N, .slice PA L pc] 29)
  have HPR := Lib.hid ((hP.out.below hB).row hB.size)
  have hAb : Hid (0 < L → ∀ g off, PA = some ⟨g, off, none⟩ → g ≠ r) := Lib.hid (fun hp => hP.out.off (by rw [intsV_len, hL.out]; exact hp) hr)
  obtain ⟨D, hD⟩ : ∃ x, Hid (tryA U M pp N = x) := ⟨_, Lib.hid rfl⟩
  obtain ⟨E, hE⟩ : ∃ x, Hid (tryE U M pp N = x) := ⟨_, Lib.hid rfl⟩
  obtain ⟨U', hU'⟩ : ∃ x, Hid (tryU U M pp N = x) := ⟨_, Lib.hid rfl⟩
  go_enter Try.func17, Try.ntmps17
  go_wp2_with (first | (go_at_call 9; (with_reducible refine (bring_any K 5 (by omega) (by omega) _).mono ?_); rintro e w0 ⟨rfl, hw0⟩; replace hw0 := hw0.symm; subst hw0; rw [hK.out]) | (go_at_call 26; (with_reducible refine (copyInts_any (intsV pp) (ints_one pp) PA L pc _ (by rw [intsV_len]; exact hL.out) (by omega) HPR.out).mono ?_); rintro e w1 ⟨v1, rfl, ho1, hb1⟩; obtain ⟨A1, c1, rfl, hq1, hg1⟩ := Row.slice2 ho1; clear ho1; have z1 := hb1.size; rw [World.size_alloc] at z1; have HG : Hid (∀ g off, A1 = some ⟨g, off, none⟩ → g ≠ b ∧ g ≠ r) := Lib.hid (fun g off e => by have := hg1 g off e; rw [World.size_alloc] at this; omega); clear hg1; replace hC := hC.below hb1; replace hR := hR.below hb1; replace hX := hX.below hb1; replace hB := hB.trans (hb1.mono hB.size); clear hb1; have e0 : w1.cell? ⟨w.heap.size, 0, none⟩ = some (.int .i64 K) := hX.cell 0; have e1 : w1.cell? ⟨w.heap.size, 1, none⟩ = some (.int .i64 X) := hX.cell 1; have e2 : w1.cell? ⟨w.heap.size, 2, none⟩ = some (.int .i64 N) := hX.cell 2; have e3 : w1.cell? ⟨w.heap.size, 3, none⟩ = some (.slice PA L pc) := hX.cell 3) | (go_at_call 11; (with_reducible refine (try_all _ b U M hC hF pp L hL (by omega) N A1 c1 hq1 (fun _ g off e => (HG.out g off e).1) D E hD hE U' hU').mono ?_); rintro e w4 ⟨rfl, hN, hT⟩; replace hB := hT.below hB hb hB.size; replace hX := hX.one hT hXb; replace hR := hR.one hT hbr.symm; replace hq1 := hq1.one hT (fun _ g off e => (HG.out g off e).1); clear hT hC; have hC := hN; clear hN; have y2 : w4.cell? ⟨w.heap.size, 2, none⟩ = some (.int .i64 N) := hX.cell 2; have y3 : w4.cell? ⟨w.heap.size, 3, none⟩ = some (.slice PA L pc) := hX.cell 3; have y3 : w4.cell? ⟨w.heap.size, 3, none⟩ = some (.slice PA L pc) := hX.cell 3) | (go_at_call 30; (with_reducible refine (rtry_all _ r U M hR hF pp L hL (by omega) N PA pc ((hP.out.below hB).row hB.size) hAb.out D E hD hE U' hU').mono ?_); rintro e w5 ⟨rfl, hN, hT⟩; replace hB := hT.below hB hr hB.size; replace hX := hX.one hT hXr; replace hC := hC.one hT hbr; replace hq1 := hq1.one hT (fun _ g off e => (HG.out g off e).2); clear hT hR; have hR := hN; clear hN; have y2 : w5.cell? ⟨w.heap.size, 2, none⟩ = some (.int .i64 N) := hX.cell 2; have y3 : w5.cell? ⟨w.heap.size, 3, none⟩ = some (.slice PA L pc) := hX.cell 3; have y3 : w5.cell? ⟨w.heap.size, 3, none⟩ = some (.slice PA L pc) := hX.cell 3) | (go_at_call 32; (with_reducible refine (eqI pp pp L L true hL.out hL.out (by omega) (by omega) (decide_eq_true rfl) _ _ _ _ _ hq1 ((hP.out.below hB).row hB.size)).mono ?_); rintro e w6 ⟨rfl, hb6⟩; replace hC := hC.below hb6; replace hR := hR.below hb6; replace hB := hB.trans (hb6.mono hB.size); clear hb6))
  go_ret
  exact ⟨rfl, U', M, by rw [← hU'.out]; exact fine_tryU hF pp N, hC, hR, hB⟩

set_option maxRecDepth 100000 in
set_option maxHeartbeats 4000000 in
theorem step_4 (W w : World) (b r : Nat) (U M : Nat → Int) (hF : Fine U M) (hC : ChAt w b U M) (hR : ReAt w r U M) (hbr : b ≠ r) (hB : Below W.heap.size W w) (hb : W.heap.size ≤ b) (hr : W.heap.size ≤ r) (K X N : Int) (PA : Option Addr) (pp : List Int) (L pc : Nat) (hL : Hid (pp.length = L)) (hL8 : L * 8 ≤ 140737488351232) (hP : Hid (RowB W W.heap.size PA (intsV pp))) (hK : Hid (K % 5 = 4)) :
    Calls Try.prog 17 #[.pointer (some ⟨b, 0, none⟩), .pointer (some ⟨r, 0, none⟩), .agg #[.int .i64 K, .int .i64 X, .int .i64 N, .slice PA L pc]] w (StepPost W b r) := by
  have hbl := hC.lt
  have hrl := hR.lt
  have hXb : w.heap.size ≠ b := by omega
  have hXr : w.heap.size ≠ r := by omega
  have hX := Blk.new w 29 #[.int .i64 K, .int .i64 X, .int .i64 N, .slice PA L pc]
  have hB := hB.alloc hB.size (.cells #[.int .i64 K, .int .i64 X, .int .i64 N, .slice PA L pc] 29)
  have hC := hC.alloc (.cells #[.int .i64 K, .int .i64 X, .int .i64 N, .slice PA L pc] 29)
  have hR := hR.alloc (.cells #[.int .i64 K, .int .i64 X, .int .i64 N, .slice PA L pc] 29)
  have HPR := Lib.hid ((hP.out.below hB).row hB.size)
  have hAb : Hid (0 < L → ∀ g off, PA = some ⟨g, off, none⟩ → g ≠ r) := Lib.hid (fun hp => hP.out.off (by rw [intsV_len, hL.out]; exact hp) hr)
  obtain ⟨E, hE⟩ : ∃ x, Hid (backE U pp N = x) := ⟨_, Lib.hid rfl⟩
  obtain ⟨U', hU'⟩ : ∃ x, Hid (backU U pp N = x) := ⟨_, Lib.hid rfl⟩
  go_enter Try.func17, Try.ntmps17
  go_wp2_with (first | (go_at_call 9; (with_reducible refine (bring_any K 5 (by omega) (by omega) _).mono ?_); rintro e w0 ⟨rfl, hw0⟩; replace hw0 := hw0.symm; subst hw0; rw [hK.out]) | (go_at_call 26; (with_reducible refine (copyInts_any (intsV pp) (ints_one pp) PA L pc _ (by rw [intsV_len]; exact hL.out) (by omega) HPR.out).mono ?_); rintro e w1 ⟨v1, rfl, ho1, hb1⟩; obtain ⟨A1, c1, rfl, hq1, hg1⟩ := Row.slice2 ho1; clear ho1; have z1 := hb1.size; rw [World.size_alloc] at z1; have HG : Hid (∀ g off, A1 = some ⟨g, off, none⟩ → g ≠ b ∧ g ≠ r) := Lib.hid (fun g off e => by have := hg1 g off e; rw [World.size_alloc] at this; omega); clear hg1; replace hC := hC.below hb1; replace hR := hR.below hb1; replace hX := hX.below hb1; replace hB := hB.trans (hb1.mono hB.size); clear hb1; have e0 : w1.cell? ⟨w.heap.size, 0, none⟩ = some (.int .i64 K) := hX.cell 0; have e1 : w1.cell? ⟨w.heap.size, 1, none⟩ = some (.int .i64 X) := hX.cell 1; have e2 : w1.cell? ⟨w.heap.size, 2, none⟩ = some (.int .i64 N) := hX.cell 2; have e3 : w1.cell? ⟨w.heap.size, 3, none⟩ = some (.slice PA L pc) := hX.cell 3))
  have hC := hC.drew
  have hR := hR.drew
  have hX := hX.drew
  have hB := hB.drew
  have hq1 := hq1.drew
  have x2 : w1.drew.cell? ⟨w.heap.size, 2, none⟩ = some (.int .i64 N) := hX.cell 2
  have x3 : w1.drew.cell? ⟨w.heap.size, 3, none⟩ = some (.slice PA L pc) := hX.cell 3
  go_region_held3 (fun w' => w'.cell? ⟨w.heap.size, 2, none⟩ = some (.int .i64 N) ∧ w'.cell? ⟨w.heap.size, 3, none⟩ = some (.slice PA L pc)) (exact ⟨by assumption, by assumption⟩) (first | (go_at_call 13; (with_reducible refine (back_all _ b U M hC hF pp L hL (by omega) N A1 c1 hq1 (fun _ g off e => (HG.out g off e).1) E hE U' hU').mono ?_); rintro e w4 ⟨rfl, hN, hT⟩; replace hB := hT.below hB hb hB.size; replace hX := hX.one hT hXb; replace hR := hR.one hT hbr.symm; replace hq1 := hq1.one hT (fun _ g off e => (HG.out g off e).1); clear hT hC; have hC := hN; clear hN; have y2 : w4.cell? ⟨w.heap.size, 2, none⟩ = some (.int .i64 N) := hX.cell 2; have y3 : w4.cell? ⟨w.heap.size, 3, none⟩ = some (.slice PA L pc) := hX.cell 3; have y3 : w4.cell? ⟨w.heap.size, 3, none⟩ = some (.slice PA L pc) := hX.cell 3) | (go_at_call 31; (with_reducible refine (rback_all _ r U M hR hF pp L hL (by omega) N PA pc ((hP.out.below hB).row hB.size) hAb.out E hE U' hU').mono ?_); rintro e w5 ⟨rfl, hN, hT⟩; replace hB := hT.below hB hr hB.size; replace hX := hX.one hT hXr; replace hC := hC.one hT hbr; replace hq1 := hq1.one hT (fun _ g off e => (HG.out g off e).2); clear hT hR; have hR := hN; clear hN; have y2 : w5.cell? ⟨w.heap.size, 2, none⟩ = some (.int .i64 N) := hX.cell 2; have y3 : w5.cell? ⟨w.heap.size, 3, none⟩ = some (.slice PA L pc) := hX.cell 3; have y3 : w5.cell? ⟨w.heap.size, 3, none⟩ = some (.slice PA L pc) := hX.cell 3))
  all_goals go_wp2_with (first | (go_at_call 32; (with_reducible refine (eqI pp pp L L true hL.out hL.out (by omega) (by omega) (decide_eq_true rfl) _ _ _ _ _ hq1 ((hP.out.below hB).row hB.size)).mono ?_); rintro e w6 ⟨rfl, hb6⟩; replace hC := hC.below hb6; replace hR := hR.below hb6; replace hB := hB.trans (hb6.mono hB.size); clear hb6))
  all_goals go_ret
  all_goals exact ⟨rfl, U', M, by rw [← hU'.out]; exact fine_backU hF pp N, hC, hR, hB⟩

end Go.Proofs.Ytnbeofbkfopehaa
