/-
  The walks of none, asked.
-/
import Derived.Test.YtnbeofbkfopehaaState
import Derived.Test.YtnbeofbkfopehaaPlain
import Derived.Test.YtnbeofbkfopehaaEqInts
import Derived.Test.YtnbeofbkfopehaaRows
import Derived.WalkKit
import Derived.Deep.DeepMust
import Derived.WalkSpells
import Derived.WalkLawsBesides
import Derived.Handy
import Derived.Lib.Hide
import Derived.Deep.QuietTactic
import Derived.BigQuiet
namespace Go.Proofs.Ytnbeofbkfopehaa
open Go.RowKit

theorem none_no (w : World) (b : Nat) (U M : Nat → Int) (hC : ChAt w b U M) : Calls Try.prog 25 #[.pointer (some ⟨b, 0, none⟩)] w fun e w' => e = .returned (.bool false) ∧ w' = w := by
  have c0 := hC.made
  go_enter Try.func25, Try.ntmps25
  go_wp2
  go_ret
  exact ⟨rfl, rfl⟩

/-- Which groups were met among the first j. -/
def SeenC (xs : List Int) (j : Nat) (cs : Array Value) : Prop := cs.size = 16 ∧ ∀ k, k < 16 → cs[k]? = some (.bool (seenB xs j k))
theorem SeenC.zero (xs : List Int) : SeenC xs 0 #[.bool false, .bool false, .bool false, .bool false, .bool false, .bool false, .bool false, .bool false, .bool false, .bool false, .bool false, .bool false, .bool false, .bool false, .bool false, .bool false] := by
  refine ⟨rfl, fun k hk => ?_⟩
  rw [seenB_zero]
  obtain rfl | rfl | rfl | rfl | rfl | rfl | rfl | rfl | rfl | rfl | rfl | rfl | rfl | rfl | rfl | rfl : k = 0 ∨ k = 1 ∨ k = 2 ∨ k = 3 ∨ k = 4 ∨ k = 5 ∨ k = 6 ∨ k = 7 ∨ k = 8 ∨ k = 9 ∨ k = 10 ∨ k = 11 ∨ k = 12 ∨ k = 13 ∨ k = 14 ∨ k = 15 := by omega
  all_goals rfl
theorem SeenC.next {xs : List Int} {j k : Nat} {cs : Array Value} (h : SeenC xs j cs) (hj : j < xs.length) (hk : xs[j] = (k : Int) + 1) (hk16 : k < 16) : SeenC xs (j + 1) (cs.setIfInBounds k (.bool true)) := by
  refine ⟨by simp [h.1], fun i hi => ?_⟩
  rw [seenB_next hj]
  by_cases hik : i = k
  · subst hik
    rw [Array.getElem?_setIfInBounds_self_of_lt (by rw [h.1]; omega), hk]
    simp
  · rw [Array.getElem?_setIfInBounds_ne (fun e => hik e.symm), h.2 i hi, decide_eq_false (by omega), Bool.or_false]

set_option maxHeartbeats 4000000 in
theorem asked_pos (w : World) (b : Nat) (U M : Nat → Int) (hC : ChAt w b U M) (xs : List Int) (m : Nat) (hm : Hid (xs.length = m)) (hp : 0 < m) (hmx : m ≤ 9223372036854775807) (n : Int) (g off c : Nat) (hg : g < w.heap.size) (hA : ∀ j u, (intsV xs)[j]? = some u → w.cell? ⟨g, off + j, none⟩ = some u) :
    Calls Try.prog 23 #[.pointer (some ⟨b, 0, none⟩), .slice (some ⟨g, off, none⟩) m c, .int .i64 n] w fun e w' => e = .returned (.int .i64 (askF xs n)) ∧ Below w.heap.size w w' := by
  have HA := Lib.hid hA
  have HC := Lib.hid hC
  obtain ⟨R, hR⟩ : ∃ R, allG xs = R := ⟨_, rfl⟩
  have HR : Hid (allG (xs.drop 0) = R) := Lib.hid hR
  have HF : Hid (R = false → askF xs n = 110) := Lib.hid (fun h => askF_no (hR.trans h))
  have HG : Hid (R = true → allG xs = true) := Lib.hid (fun h => hR.trans h)
  clear hA hC hR
  go_enter Try.func23, Try.ntmps23
  go_wp2_with (first | (go_at_call 25; with_reducible refine (none_no _ b U M HC.out).mono ?_; rintro e w0 ⟨rfl, hw0⟩; replace hw0 := hw0.symm; subst hw0))
  go_loopw [8, 17] (fun _ j wr => ∃ k : Nat, k ≤ m ∧ j = .int .i64 k ∧ Hid (allG (xs.drop k) = R) ∧ Below w.heap.size w wr) (fun _ j _ => m - (intOf j).toNat)
  case atStart => exact ⟨0, by omega, rfl, HR, Below.refl _ _⟩
  case round =>
    obtain ⟨k, hk, rfl, HK, hw⟩ := hrel
    by_cases hlt : k < m
    · have hkl : k < xs.length := by rw [hm.out]; exact hlt
      obtain ⟨x, hx⟩ : ∃ x, xs[k] = x := ⟨_, rfl⟩
      have HX := Lib.hid hx
      have cK := (hw.cell (p := ⟨g, off + k, none⟩) hg).trans (HA.out k _ (intsV_at hkl))
      rw [hx] at cK
      have HS := Lib.hid (allG_step hkl)
      rw [hx] at HS
      have k0 : (0 : Int) ≤ (k : Int) := by omega
      have k1 : (k : Int) < (m : Int) := by omega
      clear hx HX hkl
      cases hgx : grpB x
      · have HN : Hid (R = false) := Lib.hid (by rw [← HK.out, HS.out, hgx]; rfl)
        have hno : Hid (¬ (1 ≤ x ∧ x ≤ 16)) := Lib.hid (by rw [← grpB_iff, hgx]; simp)
        clear hgx
        by_cases h1 : 1 ≤ x
        all_goals
          first | have h2 : ¬ x ≤ 16 := fun h => hno.out ⟨h1, h⟩ | skip
          go_wp2
          go_ret
          exact ⟨by rw [HF.out HN.out]; (first | done | rfl), by (repeat' (first | (with_reducible exact Below.refl _ _) | (with_reducible assumption) | (with_reducible refine Below.alloc ?_ ?_ _) | (with_reducible refine below_drewN ?_ _) | (with_reducible refine Below.drew ?_) | (with_reducible refine Below.setCell ?_ ?_ _) | (with_reducible refine below_two ?_ (by with_reducible assumption)) | go_size))⟩
      · have HN : Hid (allG (xs.drop (k + 1)) = R) := Lib.hid (by rw [← HK.out, HS.out, hgx]; rfl)
        obtain ⟨h1, h2⟩ := grpB_iff.1 hgx
        clear hgx
        go_wp2
        go_roundw
        case rel => exact ⟨k + 1, by omega, by go_num, HN, by (repeat' (first | (with_reducible exact Below.refl _ _) | (with_reducible assumption) | (with_reducible refine Below.alloc ?_ ?_ _) | (with_reducible refine below_drewN ?_ _) | (with_reducible refine Below.drew ?_) | (with_reducible refine Below.setCell ?_ ?_ _) | (with_reducible refine below_two ?_ (by with_reducible assumption)) | go_size))⟩
        case measure => simp [intOf]; omega
    · have HN : Hid (allG xs = true) := Lib.hid (HG.out (by rw [← HK.out, allG_end (by rw [hm.out]; omega)]))
      have hz := hw.size
      obtain ⟨wo, rfl⟩ : ∃ wo : World, wo = wr := ⟨_, rfl⟩
      go_wp2
      go_loopw [10, 12, 30] (fun t _ q w2 => ∃ (T : Bool) (j : Nat) (cs : Array Value), j ≤ m ∧ q = .int .i64 j ∧ t = .bool T ∧ Hid (decide ((xs.take j).Nodup) = !T) ∧ Blk w2 wo.heap.size 52 cs ∧ Hid (SeenC xs j cs) ∧ Below w.heap.size w w2) (fun _ _ q _ => m - (intOf q).toNat)
      case atStart => exact ⟨false, 0, _, by omega, rfl, rfl, Lib.hid (by simp), Blk.new wo 52 _, Lib.hid (SeenC.zero xs), by (repeat' (first | (with_reducible exact Below.refl _ _) | (with_reducible assumption) | (with_reducible refine Below.alloc ?_ ?_ _) | (with_reducible refine below_drewN ?_ _) | (with_reducible refine Below.drew ?_) | (with_reducible refine Below.setCell ?_ ?_ _) | (with_reducible refine below_two ?_ (by with_reducible assumption)) | go_size))⟩
      case round =>
        clear hw
        obtain ⟨T, j, cs, hj, rfl, rfl, HT, hB, HS, hw⟩ := hrel
        by_cases hlt2 : j < m
        · have hjl : j < xs.length := by rw [hm.out]; exact hlt2
          obtain ⟨h1, h2⟩ := allG_at HN.out hjl
          obtain ⟨x, hx⟩ : ∃ x, xs[j] = x := ⟨_, rfl⟩
          have cK := (hw.cell (p := ⟨g, off + j, none⟩) hg).trans (HA.out j _ (intsV_at hjl))
          rw [hx] at cK h1 h2
          obtain ⟨k, hk1⟩ : ∃ k : Nat, x - 1 = (k : Int) := ⟨(x - 1).toNat, by omega⟩
          have hk16 : k < 16 := by omega
          have hxk : xs[j] = (k : Int) + 1 := by rw [hx]; omega
          have HX := Lib.hid (nodup_next hjl hxk)
          have HN2 := Lib.hid (HS.out.next hjl hxk hk16)
          obtain ⟨s, hs⟩ : ∃ s, seenB xs j k = s := ⟨_, rfl⟩
          have cS : wr.cell? ⟨wo.heap.size, k, none⟩ = some (.bool s) := by rw [hB.cell, HS.out.2 k hk16, hs]
          have fS := hB.frozen k
          have HB2 := Lib.hid (hB.set_ k (.bool true))
          have HSS := Lib.hid hs
          have j0 : (0 : Int) ≤ (j : Int) := by omega
          have j1 : (j : Int) < (m : Int) := by omega
          have k2 : (0 : Int) ≤ (k : Int) := by omega
          have k3 : (k : Int) < 16 := by omega
          clear hx hxk hs hjl hB
          have HT2 : Hid (decide ((xs.take (j + 1)).Nodup) = !(T || s)) := Lib.hid (by rw [HX.out, HT.out, HSS.out]; cases T <;> cases s <;> rfl)
          cases T
          all_goals
            go_wp2
            go_roundw
            case rel => exact ⟨_, j + 1, _, by omega, by go_num, by rfl, by first | exact HT2 | simpa using HT2, HB2.out, HN2, hw.setCell hz _⟩
            case measure => simp [intOf]; omega
        · have HT3 : Hid (decide (xs.Nodup) = !T) := Lib.hid (by
            have h := HT.out
            rwa [List.take_of_length_le (by rw [hm.out]; omega)] at h)
          have hz0 : ((m : Int) == 0) = false := by rw [beq_eq_false_iff_ne]; omega
          have HOK : Hid (T = false → m ≤ 8 → 0 ≤ n → n ≤ 9007199254740991 → askF xs n = 0) := Lib.hid (fun hT h8 h0 hM => askF_ok HN.out (fitB_iff.2 ⟨by have h := HT3.out; rw [hT] at h; simpa using h, by rw [hm.out]; omega, by rw [hm.out]; exact h8, h0, hM⟩))
          have HBD : Hid ((T = true ∨ 8 < m ∨ n < 0 ∨ 9007199254740991 < n) → askF xs n = 2) := Lib.hid (fun h => askF_bad HN.out (by
            rw [← Bool.not_eq_true, fitB_iff, hm.out]
            rintro ⟨h1, -, h3, h4, h5⟩
            rcases h with h | h | h | h
            · have h' := HT3.out
              rw [h, decide_eq_true h1] at h'
              cases h'
            · omega
            · omega
            · omega))
          clear hB HS
          cases T
          · by_cases h8 : m ≤ 8
            · by_cases h0 : 0 ≤ n
              · by_cases hM : n ≤ 9007199254740991
                · have HV := Lib.hid (HOK.out rfl h8 h0 hM)
                  go_wp2
                  go_ret
                  exact ⟨by rw [HV.out]; (first | done | rfl), by (repeat' (first | (with_reducible exact Below.refl _ _) | (with_reducible assumption) | (with_reducible refine Below.alloc ?_ ?_ _) | (with_reducible refine below_drewN ?_ _) | (with_reducible refine Below.drew ?_) | (with_reducible refine Below.setCell ?_ ?_ _) | (with_reducible refine below_two ?_ (by with_reducible assumption)) | go_size))⟩
                · have HV := Lib.hid (HBD.out (.inr (.inr (.inr (by omega)))))
                  go_wp2
                  go_ret
                  exact ⟨by rw [HV.out]; (first | done | rfl), by (repeat' (first | (with_reducible exact Below.refl _ _) | (with_reducible assumption) | (with_reducible refine Below.alloc ?_ ?_ _) | (with_reducible refine below_drewN ?_ _) | (with_reducible refine Below.drew ?_) | (with_reducible refine Below.setCell ?_ ?_ _) | (with_reducible refine below_two ?_ (by with_reducible assumption)) | go_size))⟩
              · have HV := Lib.hid (HBD.out (.inr (.inr (.inl (by omega)))))
                go_wp2
                go_ret
                exact ⟨by rw [HV.out]; (first | done | rfl), by (repeat' (first | (with_reducible exact Below.refl _ _) | (with_reducible assumption) | (with_reducible refine Below.alloc ?_ ?_ _) | (with_reducible refine below_drewN ?_ _) | (with_reducible refine Below.drew ?_) | (with_reducible refine Below.setCell ?_ ?_ _) | (with_reducible refine below_two ?_ (by with_reducible assumption)) | go_size))⟩
            · have HV := Lib.hid (HBD.out (.inr (.inl (by omega))))
              go_wp2
              go_ret
              exact ⟨by rw [HV.out]; (first | done | rfl), by (repeat' (first | (with_reducible exact Below.refl _ _) | (with_reducible assumption) | (with_reducible refine Below.alloc ?_ ?_ _) | (with_reducible refine below_drewN ?_ _) | (with_reducible refine Below.drew ?_) | (with_reducible refine Below.setCell ?_ ?_ _) | (with_reducible refine below_two ?_ (by with_reducible assumption)) | go_size))⟩
          · have HV := Lib.hid (HBD.out (.inl rfl))
            go_wp2
            go_ret
            exact ⟨by rw [HV.out]; (first | done | rfl), by (repeat' (first | (with_reducible exact Below.refl _ _) | (with_reducible assumption) | (with_reducible refine Below.alloc ?_ ?_ _) | (with_reducible refine below_drewN ?_ _) | (with_reducible refine Below.drew ?_) | (with_reducible refine Below.setCell ?_ ?_ _) | (with_reducible refine below_two ?_ (by with_reducible assumption)) | go_size))⟩

theorem asked_nil (w : World) (b : Nat) (U M : Nat → Int) (hC : ChAt w b U M) (n : Int) (A : Option Addr) (c : Nat) :
    Calls Try.prog 23 #[.pointer (some ⟨b, 0, none⟩), .slice A 0 c, .int .i64 n] w fun e w' => e = .returned (.int .i64 2) ∧ Below w.heap.size w w' := by
  have HC := Lib.hid hC
  clear hC
  go_enter Try.func23, Try.ntmps23
  go_wp2_with (first | (go_at_call 25; with_reducible refine (none_no _ b U M HC.out).mono ?_; rintro e w0 ⟨rfl, hw0⟩; replace hw0 := hw0.symm; subst hw0))
  refine wp_loop_rounds 1 ?_
  rw [rounds_succ]
  go_wp2
  refine wp_loop_rounds 1 ?_
  rw [rounds_succ]
  go_wp2
  go_ret
  exact ⟨rfl, by (repeat' (first | (with_reducible exact Below.refl _ _) | (with_reducible assumption) | (with_reducible refine Below.alloc ?_ ?_ _) | (with_reducible refine below_drewN ?_ _) | (with_reducible refine Below.drew ?_) | (with_reducible refine Below.setCell ?_ ?_ _) | (with_reducible refine below_two ?_ (by with_reducible assumption)) | go_size))⟩

/-- asked, of counters that are. -/
theorem asked_any (w : World) (b : Nat) (U M : Nat → Int) (hC : ChAt w b U M) (xs : List Int) (m : Nat) (hm : Hid (xs.length = m)) (hmx : m ≤ 9223372036854775807) (n : Int) (A : Option Addr) (c : Nat) (hA : Row w A (intsV xs)) (e : Int) (he : askF xs n = e) :
    Calls Try.prog 23 #[.pointer (some ⟨b, 0, none⟩), .slice A m c, .int .i64 n] w fun r w' => r = .returned (.int .i64 e) ∧ Below w.heap.size w w' := by
  subst he
  rcases Nat.eq_zero_or_pos m with h0 | hp
  · have hx : xs = [] := List.eq_nil_of_length_eq_zero (hm.out.trans h0)
    subst hx h0
    exact asked_nil w b U M hC n A c
  · obtain ⟨g, off, rfl, hg, hc⟩ := hA (by rw [intsV_len, hm.out]; exact hp)
    exact asked_pos w b U M hC xs m hm hp hmx n g off c hg hc

end Go.Proofs.Ytnbeofbkfopehaa
