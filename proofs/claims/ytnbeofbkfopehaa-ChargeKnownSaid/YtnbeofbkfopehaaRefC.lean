/-
  The walks of the reference's Try, Back.
-/
import Derived.Test.YtnbeofbkfopehaaRefB
import Derived.BigRegion
import Derived.WalkKit
import Derived.Deep.DeepMust
import Derived.WalkSpells
import Derived.WalkLawsBesides
import Derived.Handy
import Derived.Lib.Hide
import Derived.Deep.QuietTactic
import Derived.BigQuiet
namespace Go.Proofs.Ytnbeofbkfopehaa
open Go.RowKit

theorem rtry_err (w : World) (b : Nat) (xs : List Int) (m : Nat) (hm : Hid (xs.length = m)) (hmx : m ≤ 9223372036854775807) (n : Int) (A : Option Addr) (c : Nat) (hR : Row w A (intsV xs)) (e : Int) (he : Hid (askF xs n = e)) (h0 : e ≠ 0) :
    Calls Try.prog 30 #[.pointer (some ⟨b, 0, none⟩), .slice A m c, .int .i64 n] w fun r w' => r = .returned (.tuple #[.int .i64 0, .int .i64 e]) ∧ Below w.heap.size w w' := by
  have HR := Lib.hid hR
  have hne : (e != 0) = true := bne_iff_ne.2 h0
  clear hR h0
  go_enter Try.func30, Try.ntmps30
  go_wp2_with (first | (go_at_call 34; (with_reducible refine (rasked_any _ xs m hm hmx n A c HR.out e he.out).mono ?_); rintro r w1 ⟨rfl, hb1⟩))
  go_ret2
  exact ⟨rfl, hb1⟩
theorem rback_err (w : World) (b : Nat) (xs : List Int) (m : Nat) (hm : Hid (xs.length = m)) (hmx : m ≤ 9223372036854775807) (n : Int) (A : Option Addr) (c : Nat) (hR : Row w A (intsV xs)) (e : Int) (he : Hid (askF xs n = e)) (h0 : e ≠ 0) :
    Calls Try.prog 31 #[.pointer (some ⟨b, 0, none⟩), .slice A m c, .int .i64 n] w fun r w' => r = .returned (.int .i64 e) ∧ Below w.heap.size w w' := by
  have HR := Lib.hid hR
  have hne : (e != 0) = true := bne_iff_ne.2 h0
  clear hR h0
  go_enter Try.func31, Try.ntmps31
  go_wp2_with (first | (go_at_call 34; (with_reducible refine (rasked_any _ xs m hm hmx n A c HR.out e he.out).mono ?_); rintro r w1 ⟨rfl, hb1⟩))
  go_ret
  exact ⟨rfl, hb1⟩

/-- What the reference's Try leaves. -/
def RTryPost (w : World) (b : Nat) (U M : Nat → Int) (xs : List Int) (n : Int) (r : Ending) (w' : World) : Prop :=
  (fullF U M n xs = 0 ∧ r = .returned (.tuple #[.int .i64 0, .int .i64 0]) ∧ ReAt w' b (addP U xs n) M ∧ One b w w') ∨
  (fullF U M n xs ≠ 0 ∧ r = .returned (.tuple #[.int .i64 (fullF U M n xs), .int .i64 120]) ∧ Below w.heap.size w w')
def RBackPost (w : World) (b : Nat) (U M : Nat → Int) (xs : List Int) (n : Int) (r : Ending) (w' : World) : Prop :=
  (lowB U n xs = true ∧ r = .returned (.int .i64 0) ∧ ReAt w' b (addP U xs (-n)) M ∧ One b w w') ∨ (lowB U n xs = false ∧ r = .returned (.int .i64 2) ∧ Below w.heap.size w w')

set_option maxHeartbeats 8000000 in
theorem rtry_ok (w : World) (b : Nat) (U M : Nat → Int) (hC : ReAt w b U M) (hF : Fine U M) (xs : List Int) (m : Nat) (hm : Hid (xs.length = m)) (hm8 : m ≤ 8) (n : Int) (g off c : Nat) (hgb : g ≠ b) (hg : g < w.heap.size) (hA : ∀ j u, (intsV xs)[j]? = some u → w.cell? ⟨g, off + j, none⟩ = some u) (hR : Row w (some ⟨g, off, none⟩) (intsV xs)) (he : Hid (askF xs n = 0)) :
    Calls Try.prog 30 #[.pointer (some ⟨b, 0, none⟩), .slice (some ⟨g, off, none⟩) m c, .int .i64 n] w (RTryPost w b U M xs n) := by
  have HC := Lib.hid hC
  have HA := Lib.hid hA
  have HR := Lib.hid hR
  have HF := Lib.hid hF
  obtain ⟨hG, hfit⟩ := askF_zero.1 he.out
  obtain ⟨hnd, -, -, hn0, hn1⟩ := fitB_iff.1 hfit
  have HND := Lib.hid hnd
  have bl := hC.lt
  have hgrp : Hid (∀ j, j < xs.length → ∃ k : Nat, k < 16 ∧ xs[j]? = some ((k : Int) + 1)) := Lib.hid (fun j hj => by
    obtain ⟨h1, h2⟩ := allG_at hG hj
    exact ⟨(xs[j] - 1).toNat, by omega, by rw [List.getElem?_eq_getElem hj]; congr 1; omega⟩)
  obtain ⟨R, hRl⟩ : ∃ R, fullF U M n xs = R := ⟨_, rfl⟩
  have HL : Hid (fullF U M n (xs.drop 0) = R) := Lib.hid hRl
  have HL0 := Lib.hid hRl
  have HG := Lib.hid hG
  clear hC hA hR hF hG hfit hnd hRl
  go_enter Try.func30, Try.ntmps30
  go_wp2_with (first | (go_at_call 34; (with_reducible refine (rasked_any _ xs m hm (by omega) n _ c HR.out 0 he.out).mono ?_); rintro r w1 ⟨rfl, hb1⟩))
  have HC1 := Lib.hid (HC.out.below hb1)
  have z1 := hb1.size
  go_loopw [9] (fun q wr => ∃ j : Nat, j ≤ m ∧ q = .int .i64 j ∧ Hid (fullF U M n (xs.drop j) = R) ∧ ∃ nq, wr = w1.drewN nq) (fun q _ => m - (intOf q).toNat)
  case atStart => exact ⟨0, by omega, rfl, HL, 0, rfl⟩
  case round =>
    obtain ⟨j, hj, rfl, HJ, nq, hww⟩ := hrel
    subst hww
    by_cases hlt : j < m
    · have hjl : j < xs.length := by rw [hm.out]; exact hlt
      obtain ⟨k, hk16, hxk⟩ := hgrp.out j hjl
      have hxk' : xs[j] = (k : Int) + 1 := by rw [List.getElem?_eq_getElem hjl] at hxk; injection hxk
      have cK := (hb1.cell (p := ⟨g, off + j, none⟩) hg).trans (HA.out j _ (intsV_at hjl))
      rw [hxk'] at cK
      have HS := Lib.hid (fullF_step (U := U) (M := M) (n := n) hjl hxk')
      obtain ⟨u, hu⟩ : ∃ u, U k = u := ⟨_, rfl⟩
      obtain ⟨v, hv⟩ : ∃ v, M k = v := ⟨_, rfl⟩
      have c1 := HC1.out.used hk16
      have c2 := HC1.out.most hk16
      obtain ⟨u0, u1, v0, v1⟩ := HF.out k hk16
      rw [hu] at c1 HS u0 u1
      rw [hv] at c2 HS v0 v1
      have hwr : IntKind.i64.wrap (u + n) = u + n := IntWalk.i64_in _ (by omega)
      have j0 : (0 : Int) ≤ (j : Int) := by omega
      have j1 : (j : Int) < (m : Int) := by omega
      have k0 : (0 : Int) ≤ (k : Int) + 1 := by omega
      have k1 : (k : Int) + 1 < 17 := by omega
      clear hxk hxk' hjl hu hv
      by_cases hq : u + n ≤ v
      · have HN : Hid (fullF U M n (xs.drop (j + 1)) = R) := Lib.hid (by rw [← HJ.out, HS.out, decide_eq_true (show n ≤ v - u by omega)]; rfl)
        have t1 : decide (v < u + n) = false := decide_eq_false (by omega)
        go_wp2
        go_quiet (fail)
        go_wp2
        go_roundw
        case rel => exact ⟨j + 1, by omega, by go_num, HN, _, rfl⟩
        case measure => simp [intOf]; omega
      · have HN : Hid ((k : Int) + 1 = R) := Lib.hid (by rw [← HJ.out, HS.out, decide_eq_false (show ¬ n ≤ v - u by omega)]; rfl)
        have t1 : decide (v < u + n) = true := decide_eq_true (by omega)
        go_wp2
        go_quiet (fail)
        go_wp2
        go_ret2
        exact .inr ⟨by rw [HL0.out, ← HN.out]; omega, by rw [HL0.out, ← HN.out]; (first | done | rfl), by (repeat' (first | (with_reducible exact Below.refl _ _) | (with_reducible assumption) | (with_reducible refine Below.alloc ?_ ?_ _) | (with_reducible refine below_drewN ?_ _) | (with_reducible refine Below.drew ?_) | (with_reducible refine Below.setCell ?_ ?_ _) | (with_reducible refine below_two ?_ (by with_reducible assumption)) | go_size))⟩
    · have HN : Hid (R = 0) := Lib.hid (by rw [← HJ.out, fullF_end (by rw [hm.out]; omega)])
      have HLO := Lib.hid (HL0.out.trans HN.out)
      have HT1 := Lib.hid ((One.of_below b hb1).drewN nq)
      have HC2 := Lib.hid (HC1.out.drewN nq)
      obtain ⟨wo, hwo⟩ : ∃ wo : World, wo = w1.drewN nq := ⟨_, rfl⟩
      rw [← hwo] at HT1 HC2 ⊢
      clear hwo
      go_wp2
      go_loopw [10] (fun q w2 => ∃ j : Nat, j ≤ m ∧ q = .int .i64 j ∧ ReAt w2 b (addP U (xs.take j) (n)) M ∧ One b w w2) (fun q _ => m - (intOf q).toNat)
      case atStart => exact ⟨0, by omega, rfl, by rw [List.take_zero, addP_nil]; exact HC2.out, HT1.out⟩
      case round =>
        obtain ⟨j, hj, rfl, hC2, hT⟩ := hrel
        by_cases hlt2 : j < m
        · have hjl : j < xs.length := by rw [hm.out]; exact hlt2
          obtain ⟨k, hk16, hxk⟩ := hgrp.out j hjl
          have hxk' : xs[j] = (k : Int) + 1 := by rw [List.getElem?_eq_getElem hjl] at hxk; injection hxk
          have cK : wr.cell? ⟨g, off + j, none⟩ = some (.int .i64 ((k : Int) + 1)) := by
            rw [World.cell?_of_block (w := w) (hT.block g hg hgb), HA.out j _ (intsV_at hjl), hxk']
          have hns := seen_no HND.out hjl hxk'
          obtain ⟨ha1, ha2⟩ := addP_next (U := U) (d := n) hjl hxk' hns
          have HA1 := Lib.hid ha1
          have hlow := full_room HG.out HLO.out k (by rw [← hxk']; exact List.getElem_mem hjl)
          obtain ⟨u0, u1, v0, v1⟩ := HF.out k hk16
          obtain ⟨u, hu⟩ : ∃ u, U k = u := ⟨_, rfl⟩
          have c1 := hC2.used hk16
          have f1 := hC2.frozen (k + 1)
          rw [ha2, hu] at c1
          rw [hu] at hlow u0 u1
          have HU := Lib.hid hu
          have j0 : (0 : Int) ≤ (j : Int) := by omega
          have j1 : (j : Int) < (m : Int) := by omega
          have k0 : (0 : Int) ≤ (k : Int) + 1 := by omega
          have k1 : (k : Int) + 1 < 17 := by omega
          have w3k : IntKind.i64.wrap (u + n) = u + n := IntWalk.i64_in _ (by omega)
          have k3 : ((k : Int) + 1).toNat = k + 1 := by omega
          have bl2 := hC2.lt
          have HC3 : Hid (∀ w', ReAt w' b (addP U (xs.take j) (n)) M → ReAt (w'.setCell ⟨b, k + 1, none⟩ (.int .i64 (u + n))) b (addP U (xs.take (j + 1)) (n)) M) := Lib.hid (fun w' h => by
            have := h.setUsed hk16 (u + n)
            rw [HA1.out, HU.out]
            exact this)
          clear ha1 ha2 hu hxk hxk' hjl hns
          go_wp2
          go_region
          all_goals go_wp2
          all_goals
            go_roundw
            case rel => exact ⟨j + 1, by omega, by go_num, by first | exact HC3.out _ hC2 | exact HC3.out _ (hC2.drewN _), by first | exact (hT.set _ _).drew | exact (hT.drewN _).set _ _⟩
            case measure => simp [intOf]; omega
        · have hjm : j = m := by omega
          subst hjm
          rw [List.take_of_length_le (by rw [hm.out]; exact Nat.le_refl _)] at hC2
          go_wp2
          go_ret2
          exact .inl ⟨HLO.out, rfl, hC2, hT⟩

set_option maxHeartbeats 8000000 in
theorem rback_ok (w : World) (b : Nat) (U M : Nat → Int) (hC : ReAt w b U M) (hF : Fine U M) (xs : List Int) (m : Nat) (hm : Hid (xs.length = m)) (hm8 : m ≤ 8) (n : Int) (g off c : Nat) (hgb : g ≠ b) (hg : g < w.heap.size) (hA : ∀ j u, (intsV xs)[j]? = some u → w.cell? ⟨g, off + j, none⟩ = some u) (hR : Row w (some ⟨g, off, none⟩) (intsV xs)) (he : Hid (askF xs n = 0)) :
    Calls Try.prog 31 #[.pointer (some ⟨b, 0, none⟩), .slice (some ⟨g, off, none⟩) m c, .int .i64 n] w (RBackPost w b U M xs n) := by
  have HC := Lib.hid hC
  have HA := Lib.hid hA
  have HR := Lib.hid hR
  have HF := Lib.hid hF
  obtain ⟨hG, hfit⟩ := askF_zero.1 he.out
  obtain ⟨hnd, -, -, hn0, hn1⟩ := fitB_iff.1 hfit
  have HND := Lib.hid hnd
  have bl := hC.lt
  have hgrp : Hid (∀ j, j < xs.length → ∃ k : Nat, k < 16 ∧ xs[j]? = some ((k : Int) + 1)) := Lib.hid (fun j hj => by
    obtain ⟨h1, h2⟩ := allG_at hG hj
    exact ⟨(xs[j] - 1).toNat, by omega, by rw [List.getElem?_eq_getElem hj]; congr 1; omega⟩)
  obtain ⟨R, hRl⟩ : ∃ R, lowB U n xs = R := ⟨_, rfl⟩
  have HL : Hid (lowB U n (xs.drop 0) = R) := Lib.hid hRl
  have HL0 := Lib.hid hRl
  have HG := Lib.hid hG
  clear hC hA hR hF hG hfit hnd hRl
  go_enter Try.func31, Try.ntmps31
  go_wp2_with (first | (go_at_call 34; (with_reducible refine (rasked_any _ xs m hm (by omega) n _ c HR.out 0 he.out).mono ?_); rintro r w1 ⟨rfl, hb1⟩))
  have HC1 := Lib.hid (HC.out.below hb1)
  have z1 := hb1.size
  go_loopw [8] (fun q wr => ∃ j : Nat, j ≤ m ∧ q = .int .i64 j ∧ Hid (lowB U n (xs.drop j) = R) ∧ ∃ nq, wr = w1.drewN nq) (fun q _ => m - (intOf q).toNat)
  case atStart => exact ⟨0, by omega, rfl, HL, 0, rfl⟩
  case round =>
    obtain ⟨j, hj, rfl, HJ, nq, hww⟩ := hrel
    subst hww
    by_cases hlt : j < m
    · have hjl : j < xs.length := by rw [hm.out]; exact hlt
      obtain ⟨k, hk16, hxk⟩ := hgrp.out j hjl
      have hxk' : xs[j] = (k : Int) + 1 := by rw [List.getElem?_eq_getElem hjl] at hxk; injection hxk
      have cK := (hb1.cell (p := ⟨g, off + j, none⟩) hg).trans (HA.out j _ (intsV_at hjl))
      rw [hxk'] at cK
      have HS := Lib.hid (lowB_step (U := U) (n := n) hjl hxk')
      obtain ⟨u, hu⟩ : ∃ u, U k = u := ⟨_, rfl⟩
      have c1 := HC1.out.used hk16
      obtain ⟨u0, u1, -, -⟩ := HF.out k hk16
      rw [hu] at c1 HS u0 u1
      have j0 : (0 : Int) ≤ (j : Int) := by omega
      have j1 : (j : Int) < (m : Int) := by omega
      have k0 : (0 : Int) ≤ (k : Int) + 1 := by omega
      have k1 : (k : Int) + 1 < 17 := by omega
      clear hxk hxk' hjl hu
      by_cases hq : n ≤ u
      · have HN : Hid (lowB U n (xs.drop (j + 1)) = R) := Lib.hid (by rw [← HJ.out, HS.out, decide_eq_true hq]; rfl)
        have t1 : decide (u < n) = false := decide_eq_false (by omega)
        go_wp2
        go_quiet (fail)
        go_wp2
        go_roundw
        case rel => exact ⟨j + 1, by omega, by go_num, HN, _, rfl⟩
        case measure => simp [intOf]; omega
      · have HN : Hid (R = false) := Lib.hid (by rw [← HJ.out, HS.out, decide_eq_false hq]; rfl)
        have t1 : decide (u < n) = true := decide_eq_true (by omega)
        go_wp2
        go_quiet (fail)
        go_wp2
        go_ret
        exact .inr ⟨HL0.out.trans HN.out, rfl, by (repeat' (first | (with_reducible exact Below.refl _ _) | (with_reducible assumption) | (with_reducible refine Below.alloc ?_ ?_ _) | (with_reducible refine below_drewN ?_ _) | (with_reducible refine Below.drew ?_) | (with_reducible refine Below.setCell ?_ ?_ _) | (with_reducible refine below_two ?_ (by with_reducible assumption)) | go_size))⟩
    · have HN : Hid (R = true) := Lib.hid (by rw [← HJ.out, lowB_end (by rw [hm.out]; omega)])
      have HLO := Lib.hid (HL0.out.trans HN.out)
      have HT1 := Lib.hid ((One.of_below b hb1).drewN nq)
      have HC2 := Lib.hid (HC1.out.drewN nq)
      obtain ⟨wo, hwo⟩ : ∃ wo : World, wo = w1.drewN nq := ⟨_, rfl⟩
      rw [← hwo] at HT1 HC2 ⊢
      clear hwo
      go_wp2
      go_loopw [9] (fun q w2 => ∃ j : Nat, j ≤ m ∧ q = .int .i64 j ∧ ReAt w2 b (addP U (xs.take j) (-n)) M ∧ One b w w2) (fun q _ => m - (intOf q).toNat)
      case atStart => exact ⟨0, by omega, rfl, by rw [List.take_zero, addP_nil]; exact HC2.out, HT1.out⟩
      case round =>
        obtain ⟨j, hj, rfl, hC2, hT⟩ := hrel
        by_cases hlt2 : j < m
        · have hjl : j < xs.length := by rw [hm.out]; exact hlt2
          obtain ⟨k, hk16, hxk⟩ := hgrp.out j hjl
          have hxk' : xs[j] = (k : Int) + 1 := by rw [List.getElem?_eq_getElem hjl] at hxk; injection hxk
          have cK : wr.cell? ⟨g, off + j, none⟩ = some (.int .i64 ((k : Int) + 1)) := by
            rw [World.cell?_of_block (w := w) (hT.block g hg hgb), HA.out j _ (intsV_at hjl), hxk']
          have hns := seen_no HND.out hjl hxk'
          obtain ⟨ha1, ha2⟩ := addP_next (U := U) (d := -n) hjl hxk' hns
          have HA1 := Lib.hid ha1
          have hlow := lowB_at HLO.out hjl hxk'
          obtain ⟨u0, u1, v0, v1⟩ := HF.out k hk16
          obtain ⟨u, hu⟩ : ∃ u, U k = u := ⟨_, rfl⟩
          have c1 := hC2.used hk16
          have f1 := hC2.frozen (k + 1)
          rw [ha2, hu] at c1
          rw [hu] at hlow u0 u1
          have HU := Lib.hid hu
          have j0 : (0 : Int) ≤ (j : Int) := by omega
          have j1 : (j : Int) < (m : Int) := by omega
          have k0 : (0 : Int) ≤ (k : Int) + 1 := by omega
          have k1 : (k : Int) + 1 < 17 := by omega
          have w3k : IntKind.i64.wrap (u - n) = u - n := IntWalk.i64_in _ (by omega)
          have k3 : ((k : Int) + 1).toNat = k + 1 := by omega
          have bl2 := hC2.lt
          have HC3 : Hid (∀ w', ReAt w' b (addP U (xs.take j) (-n)) M → ReAt (w'.setCell ⟨b, k + 1, none⟩ (.int .i64 (u - n))) b (addP U (xs.take (j + 1)) (-n)) M) := Lib.hid (fun w' h => by
            have := h.setUsed hk16 (u - n)
            rw [HA1.out, HU.out, show u + -n = u - n by omega]
            exact this)
          clear ha1 ha2 hu hxk hxk' hjl hns
          go_wp2
          go_region
          all_goals go_wp2
          all_goals
            go_roundw
            case rel => exact ⟨j + 1, by omega, by go_num, by first | exact HC3.out _ hC2 | exact HC3.out _ (hC2.drewN _), by first | exact (hT.set _ _).drew | exact (hT.drewN _).set _ _⟩
            case measure => simp [intOf]; omega
        · have hjm : j = m := by omega
          subst hjm
          rw [List.take_of_length_le (by rw [hm.out]; exact Nat.le_refl _)] at hC2
          go_wp2
          go_ret
          exact .inl ⟨HLO.out, rfl, hC2, hT⟩

theorem rtry_all (w : World) (b : Nat) (U M : Nat → Int) (hC : ReAt w b U M) (hF : Fine U M) (xs : List Int) (m : Nat) (hm : Hid (xs.length = m)) (hmx : m ≤ 9223372036854775807) (n : Int) (A : Option Addr) (c : Nat) (hR : Row w A (intsV xs)) (hAb : 0 < m → ∀ g off, A = some ⟨g, off, none⟩ → g ≠ b) (a e : Int) (ha : Hid (tryA U M xs n = a)) (he : Hid (tryE U M xs n = e)) (U' : Nat → Int) (hU : Hid (tryU U M xs n = U')) :
    Calls Try.prog 30 #[.pointer (some ⟨b, 0, none⟩), .slice A m c, .int .i64 n] w fun r w' => r = .returned (.tuple #[.int .i64 a, .int .i64 e]) ∧ ReAt w' b U' M ∧ One b w w' := by
  have h1 := he.out
  have h2 := hU.out
  have h3 := ha.out
  unfold tryU at h2
  rw [h1] at h2
  unfold tryE at h1
  unfold tryA at h3
  by_cases h0 : askF xs n = 0
  · rw [if_pos h0] at h1 h3
    obtain ⟨q1, q8, -, -⟩ := ask_len h0
    rw [hm.out] at q1 q8
    obtain ⟨g, off, rfl, hg, hc⟩ := hR (by rw [intsV_len, hm.out]; exact q1)
    refine (rtry_ok w b U M hC hF xs m hm q8 n g off c (hAb (by omega) g off rfl) hg hc hR (Lib.hid h0)).mono ?_
    intro r w' h
    by_cases hq : fullF U M n xs = 0
    · rw [if_pos hq] at h1
      rw [hq] at h3
      rw [← h1, if_pos rfl] at h2
      subst h1 h2 h3
      rcases h with ⟨-, k1, k2, k3⟩ | ⟨k0, -⟩
      · exact ⟨k1, k2, k3⟩
      · exact absurd hq k0
    · rw [if_neg hq] at h1
      rw [← h1, if_neg (by decide)] at h2
      subst h1 h2 h3
      rcases h with ⟨k0, -⟩ | ⟨-, k1, k2⟩
      · exact absurd k0 hq
      · exact ⟨k1, hC.below k2, One.of_below b k2⟩
  · rw [if_neg h0] at h1 h3
    rw [if_neg (by rw [← h1]; exact h0)] at h2
    subst h2 h3
    exact (rtry_err w b xs m hm hmx n A c hR e (Lib.hid h1) (by rw [← h1]; exact h0)).mono fun r w' h => ⟨h.1, hC.below h.2, One.of_below b h.2⟩

theorem rback_all (w : World) (b : Nat) (U M : Nat → Int) (hC : ReAt w b U M) (hF : Fine U M) (xs : List Int) (m : Nat) (hm : Hid (xs.length = m)) (hmx : m ≤ 9223372036854775807) (n : Int) (A : Option Addr) (c : Nat) (hR : Row w A (intsV xs)) (hAb : 0 < m → ∀ g off, A = some ⟨g, off, none⟩ → g ≠ b) (e : Int) (he : Hid (backE U xs n = e)) (U' : Nat → Int) (hU : Hid (backU U xs n = U')) :
    Calls Try.prog 31 #[.pointer (some ⟨b, 0, none⟩), .slice A m c, .int .i64 n] w fun r w' => r = .returned (.int .i64 e) ∧ ReAt w' b U' M ∧ One b w w' := by
  have h1 := he.out
  have h2 := hU.out
  unfold backU at h2
  rw [h1] at h2
  unfold backE at h1
  by_cases h0 : askF xs n = 0
  · rw [if_pos h0] at h1
    obtain ⟨q1, q8, -, -⟩ := ask_len h0
    rw [hm.out] at q1 q8
    obtain ⟨g, off, rfl, hg, hc⟩ := hR (by rw [intsV_len, hm.out]; exact q1)
    refine (rback_ok w b U M hC hF xs m hm q8 n g off c (hAb (by omega) g off rfl) hg hc hR (Lib.hid h0)).mono ?_
    intro r w' h
    by_cases hq : lowB U n xs = true
    · rw [if_pos hq] at h1
      rw [← h1, if_pos rfl] at h2
      subst h1 h2
      rcases h with ⟨-, k1, k2, k3⟩ | ⟨k0, -⟩
      · exact ⟨k1, k2, k3⟩
      · rw [hq] at k0; cases k0
    · rw [if_neg hq] at h1
      rw [← h1, if_neg (by decide)] at h2
      subst h1 h2
      rcases h with ⟨k0, -⟩ | ⟨-, k1, k2⟩
      · exact absurd k0 hq
      · exact ⟨k1, hC.below k2, One.of_below b k2⟩
  · rw [if_neg h0] at h1
    rw [if_neg (by rw [← h1]; exact h0)] at h2
    subst h2
    exact (rback_err w b xs m hm hmx n A c hR e (Lib.hid h1) (by rw [← h1]; exact h0)).mono fun r w' h => ⟨h.1, hC.below h.2, One.of_below b h.2⟩

end Go.Proofs.Ytnbeofbkfopehaa
