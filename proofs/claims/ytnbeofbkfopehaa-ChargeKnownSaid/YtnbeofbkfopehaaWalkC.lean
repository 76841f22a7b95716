/-
  The walks of New, Back.
-/
import Derived.Test.YtnbeofbkfopehaaWalkB
import Derived.WalkKit
import Derived.Deep.DeepMust
import Derived.WalkSpells
import Derived.WalkLawsBesides
import Derived.Handy
import Derived.Lib.Hide
import Derived.Deep.QuietTactic
import Derived.BigQuiet
namespace Go.Proofs.Ytnbeofbkfopehaa
open Go.RowKit

/-- Each group of xs has d more. -/
def addP (U : Nat → Int) (xs : List Int) (d : Int) : Nat → Int := fun k => if ((k : Int) + 1) ∈ xs then U k + d else U k
theorem addP_nil (U : Nat → Int) (d : Int) : addP U [] d = U := by funext k; simp [addP]
theorem addP_next {U : Nat → Int} {xs : List Int} {d : Int} {j k : Nat} (hj : j < xs.length) (hk : xs[j] = (k : Int) + 1) (hs : seenB xs j k = false) :
    addP U (xs.take (j + 1)) d = upd (addP U (xs.take j) d) k (U k + d) ∧ addP U (xs.take j) d k = U k := by
  have hno : ((k : Int) + 1) ∉ xs.take j := by
    unfold seenB at hs
    intro h
    rw [List.contains_iff_mem.2 h] at hs
    cases hs
  refine ⟨?_, by unfold addP; rw [if_neg hno]⟩
  funext i
  unfold addP upd
  rw [List.take_succ_eq_append_getElem hj, hk]
  simp only [List.mem_append, List.mem_singleton]
  by_cases hik : i = k
  · subst hik
    simp
  · have : ¬ ((i : Int) + 1 = (k : Int) + 1) := by omega
    simp [this, hik]
theorem seen_no {xs : List Int} (h : xs.Nodup) {j k : Nat} (hj : j < xs.length) (hk : xs[j] = (k : Int) + 1) : seenB xs j k = false := by
  have h1 := nodup_next hj hk
  have h2 : (xs.take (j + 1)).Nodup := h.sublist (List.take_sublist _ _)
  rw [decide_eq_true h2] at h1
  cases hs : seenB xs j k
  · rfl
  · rw [hs] at h1; simp at h1
/-- All groups of xs have n at least. -/
def lowB (U : Nat → Int) (n : Int) (xs : List Int) : Bool := xs.all fun x => decide (n ≤ U (x - 1).toNat)
theorem lowB_end {U : Nat → Int} {n : Int} {xs : List Int} {k : Nat} (h : xs.length ≤ k) : lowB U n (xs.drop k) = true := by rw [List.drop_eq_nil_of_le h]; rfl
theorem lowB_step {U : Nat → Int} {n : Int} {xs : List Int} {j k : Nat} (h : j < xs.length) (hk : xs[j] = (k : Int) + 1) : lowB U n (xs.drop j) = (decide (n ≤ U k) && lowB U n (xs.drop (j + 1))) := by
  rw [List.drop_eq_getElem_cons h, hk]
  show (decide (n ≤ U ((k : Int) + 1 - 1).toNat) && _) = _
  rw [show ((k : Int) + 1 - 1).toNat = k by omega]
  rfl
theorem lowB_at {U : Nat → Int} {n : Int} {xs : List Int} (h : lowB U n xs = true) {j k : Nat} (hj : j < xs.length) (hk : xs[j] = (k : Int) + 1) : n ≤ U k := by
  unfold lowB at h
  have := List.all_eq_true.1 h _ (List.getElem_mem hj)
  rw [hk, show ((k : Int) + 1 - 1).toNat = k by omega] at this
  simpa using this

theorem back_err (w : World) (b : Nat) (U M : Nat → Int) (hC : ChAt w b U M) (xs : List Int) (m : Nat) (hm : Hid (xs.length = m)) (hmx : m ≤ 9223372036854775807) (n : Int) (A : Option Addr) (c : Nat) (hA : Row w A (intsV xs)) (e : Int) (he : askF xs n = e) (h0 : e ≠ 0) :
    Calls Try.prog 13 #[.pointer (some ⟨b, 0, none⟩), .slice A m c, .int .i64 n] w fun r w' => r = .returned (.int .i64 e) ∧ Below w.heap.size w w' := by
  have HC := Lib.hid hC
  have HA := Lib.hid hA
  have hne : (e != 0) = true := bne_iff_ne.2 h0
  have HE := Lib.hid he
  clear hC hA h0 he
  go_enter Try.func13, Try.ntmps13
  go_wp2_with (first | (go_at_call 23; (with_reducible refine (asked_any _ b U M HC.out xs m hm hmx n A c HA.out e HE.out).mono ?_); rintro r w1 ⟨rfl, hb1⟩))
  go_ret
  exact ⟨rfl, hb1⟩

/-- What Back leaves. -/
def BackPost (w : World) (b : Nat) (U M : Nat → Int) (xs : List Int) (n : Int) (r : Ending) (w' : World) : Prop :=
  (lowB U n xs = true ∧ r = .returned (.int .i64 0) ∧ ChAt w' b (addP U xs (-n)) M ∧ One b w w') ∨ (lowB U n xs = false ∧ r = .returned (.int .i64 2) ∧ Below w.heap.size w w')

set_option maxHeartbeats 4000000 in
theorem back_ok (w : World) (b : Nat) (U M : Nat → Int) (hC : ChAt w b U M) (hF : Fine U M) (xs : List Int) (m : Nat) (hm : Hid (xs.length = m)) (hm8 : m ≤ 8) (n : Int) (g off c : Nat) (hgb : g ≠ b) (hg : g < w.heap.size) (hA : ∀ j u, (intsV xs)[j]? = some u → w.cell? ⟨g, off + j, none⟩ = some u) (hR : Row w (some ⟨g, off, none⟩) (intsV xs)) (he : Hid (askF xs n = 0)) :
    Calls Try.prog 13 #[.pointer (some ⟨b, 0, none⟩), .slice (some ⟨g, off, none⟩) m c, .int .i64 n] w (BackPost w b U M xs n) := by
  have HC := Lib.hid hC
  have HA := Lib.hid hA
  have HR := Lib.hid hR
  have HF := Lib.hid hF
  obtain ⟨hG, hfit⟩ := askF_zero.1 he.out
  obtain ⟨hnd, -, -, hn0, hn1⟩ := fitB_iff.1 hfit
  obtain ⟨R, hRl⟩ : ∃ R, lowB U n xs = R := ⟨_, rfl⟩
  have HG := Lib.hid hG
  have HND := Lib.hid hnd
  have HL : Hid (lowB U n (xs.drop 0) = R) := Lib.hid hRl
  have HL0 := Lib.hid hRl
  have bl := hC.lt
  have hgrp : Hid (∀ j, j < xs.length → ∃ k : Nat, k < 16 ∧ xs[j]? = some ((k : Int) + 1)) := Lib.hid (fun j hj => by
    obtain ⟨h1, h2⟩ := allG_at hG hj
    exact ⟨(xs[j] - 1).toNat, by omega, by rw [List.getElem?_eq_getElem hj]; congr 1; omega⟩)
  clear hC hA hR hF hG hfit hnd hRl
  go_enter Try.func13, Try.ntmps13
  go_wp2_with (first | (go_at_call 23; (with_reducible refine (asked_any _ b U M HC.out xs m hm (by omega) n _ c HR.out 0 he.out).mono ?_); rintro r w1 ⟨rfl, hb1⟩))
  have HC1 := Lib.hid (HC.out.below hb1)
  have z1 := hb1.size
  go_loopw [9, 21] (fun _ q wr => ∃ j : Nat, j ≤ m ∧ q = .int .i64 j ∧ Hid (lowB U n (xs.drop j) = R) ∧ wr = w1) (fun _ q _ => m - (intOf q).toNat)
  case atStart => exact ⟨0, by omega, rfl, HL, rfl⟩
  case round =>
    obtain ⟨j, hj, rfl, HJ, rfl⟩ := hrel
    by_cases hlt : j < m
    · have hjl : j < xs.length := by rw [hm.out]; exact hlt
      obtain ⟨k, hk16, hxk⟩ := hgrp.out j hjl
      have hxk' : xs[j] = (k : Int) + 1 := by rw [List.getElem?_eq_getElem hjl] at hxk; injection hxk
      have cK := (hb1.cell (p := ⟨g, off + j, none⟩) hg).trans (HA.out j _ (intsV_at hjl))
      rw [hxk'] at cK
      have HS := Lib.hid (lowB_step (U := U) (n := n) hjl hxk')
      obtain ⟨u, hu⟩ : ∃ u, U k = u := ⟨_, rfl⟩
      have c1 := HC1.out.used hk16
      obtain ⟨u0, u1, -, -⟩ := HF.out k hk16
      rw [hu] at c1 HS u0 u1
      have j0 : (0 : Int) ≤ (j : Int) := by omega
      have j1 : (j : Int) < (m : Int) := by omega
      have k0 : (0 : Int) ≤ (k : Int) := by omega
      have k1 : (k : Int) < 16 := by omega
      have hx1 : (k : Int) + 1 - 1 = (k : Int) := by omega
      clear hxk hxk' hjl hu
      by_cases hq : n ≤ u
      · have HN : Hid (lowB U n (xs.drop (j + 1)) = R) := Lib.hid (by rw [← HJ.out, HS.out, decide_eq_true hq]; rfl)
        go_wp2
        go_roundw
        case rel => exact ⟨j + 1, by omega, by go_num, HN, trivial⟩
        case measure => simp [intOf]; omega
      · have HN : Hid (R = false) := Lib.hid (by rw [← HJ.out, HS.out, decide_eq_false hq]; rfl)
        go_wp2
        go_ret
        exact .inr ⟨HL0.out.trans HN.out, rfl, hb1⟩
    · have HN : Hid (R = true) := Lib.hid (by rw [← HJ.out, lowB_end (by rw [hm.out]; omega)])
      obtain ⟨wo, rfl⟩ : ∃ wo : World, wo = wr := ⟨_, rfl⟩
      have HLO := Lib.hid (HL0.out.trans HN.out)
      go_wp2
      go_loopw [11, 37] (fun _ q w2 => ∃ j : Nat, j ≤ m ∧ q = .int .i64 j ∧ ChAt w2 b (addP U (xs.take j) (-n)) M ∧ One b w w2) (fun _ q _ => m - (intOf q).toNat)
      case atStart => exact ⟨0, by omega, rfl, by rw [List.take_zero, addP_nil]; exact HC1.out, One.of_below b hb1⟩
      case round =>
        obtain ⟨j, hj, rfl, hC2, hT⟩ := hrel
        by_cases hlt2 : j < m
        · have hjl : j < xs.length := by rw [hm.out]; exact hlt2
          obtain ⟨k, hk16, hxk⟩ := hgrp.out j hjl
          have hxk' : xs[j] = (k : Int) + 1 := by rw [List.getElem?_eq_getElem hjl] at hxk; injection hxk
          have cK : wr.cell? ⟨g, off + j, none⟩ = some (.int .i64 ((k : Int) + 1)) := by
            rw [World.cell?_of_block (w := w) (hT.block g hg hgb), HA.out j _ (intsV_at hjl), hxk']
          have hns := seen_no HND.out hjl hxk'
          obtain ⟨ha1, ha2⟩ := addP_next (U := U) (d := -n) hjl hxk' hns
          have HA1 := Lib.hid ha1
          have hlow := lowB_at HLO.out hjl hxk'
          obtain ⟨u0, u1, -, -⟩ := HF.out k hk16
          obtain ⟨u, hu⟩ : ∃ u, U k = u := ⟨_, rfl⟩
          have c1 := hC2.used hk16
          have f1 := hC2.frozen (1 + k)
          rw [ha2, hu] at c1
          rw [hu] at hlow u0 u1
          have HU := Lib.hid hu
          have j0 : (0 : Int) ≤ (j : Int) := by omega
          have j1 : (j : Int) < (m : Int) := by omega
          have k0 : (0 : Int) ≤ (k : Int) := by omega
          have k1 : (k : Int) < 16 := by omega
          have hx1 : (k : Int) + 1 - 1 = (k : Int) := by omega
          have w1k : IntKind.i64.wrap ((k : Nat) : Int) = (k : Int) := IntWalk.i64_in _ (by omega)
          have w3k : IntKind.i64.wrap (u - n) = u - n := IntWalk.i64_in _ (by omega)
          have HC3 : Hid (∀ w', ChAt w' b (addP U (xs.take j) (-n)) M → ChAt (w'.setCell ⟨b, 1 + k, none⟩ (.int .i64 (u - n))) b (addP U (xs.take (j + 1)) (-n)) M) := Lib.hid (fun w' h => by
            have := h.setUsed hk16 (u - n)
            rw [HA1.out, HU.out, show u + -n = u - n by omega]
            exact this)
          clear ha1 ha2 hu hxk hxk' hjl hns
          go_wp2
          go_region
          all_goals go_wp2
          all_goals
            go_roundw
            case rel => exact ⟨j + 1, by omega, by go_num, by first | exact HC3.out _ hC2 | exact HC3.out _ (hC2.drewN _), by first | exact (hT.set _ _).drew | exact (hT.drewN _).set _ _⟩
            case measure => simp [intOf]; omega
        · have hjm : j = m := by omega
          subst hjm
          rw [List.take_of_length_le (by rw [hm.out]; exact Nat.le_refl _)] at hC2
          go_wp2
          go_ret
          exact .inl ⟨HLO.out, rfl, hC2, hT⟩

end Go.Proofs.Ytnbeofbkfopehaa
