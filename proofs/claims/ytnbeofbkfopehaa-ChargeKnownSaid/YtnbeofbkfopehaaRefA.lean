/-
  The walks of the reference's group, asked.
-/
import Derived.Test.YtnbeofbkfopehaaWalkA
import Derived.Test.YtnbeofbkfopehaaWalkC
import Derived.RegionTactic
import Derived.WalkKit
import Derived.Deep.DeepMust
import Derived.WalkSpells
import Derived.WalkLawsBesides
import Derived.Handy
import Derived.Lib.Hide
import Derived.Deep.QuietTactic
import Derived.BigQuiet
namespace Go.Proofs.Ytnbeofbkfopehaa
open Go.RowKit

theorem group_yes (x : Int) (h1 : 1 ≤ x) (h2 : x ≤ 16) (w : World) : Calls Try.prog 33 #[.int .i64 x] w fun e w' => e = .returned (.bool true) ∧ w' = w := by
  go_enter Try.func33, Try.ntmps33
  go_wp2
  go_ret
  exact ⟨rfl, rfl⟩
theorem group_no (x : Int) (h : ¬ (1 ≤ x ∧ x ≤ 16)) (w : World) : Calls Try.prog 33 #[.int .i64 x] w fun e w' => e = .returned (.bool false) ∧ w' = w := by
  by_cases h1 : 1 ≤ x
  all_goals
    first | have h2 : ¬ x ≤ 16 := fun h' => h ⟨h1, h'⟩ | skip
    clear h
    go_enter Try.func33, Try.ntmps33
    go_wp2
    go_ret
    exact ⟨rfl, rfl⟩

theorem ask_val {xs : List Int} {m : Nat} (hm : xs.length = m) (hp : 0 < m) (n : Int) (hg : allG xs = true) (T : Bool) (hT : T = (!decide (m ≤ 8 ∧ 0 ≤ n ∧ n ≤ 9007199254740991) || !decide xs.Nodup)) : askF xs n = bif T then 2 else 0 := by
  subst hm
  have e : fitB xs n = !T := by
    unfold fitB
    rw [hT]
    by_cases h1 : xs.Nodup
    · by_cases h2 : xs.length ≤ 8 ∧ 0 ≤ n ∧ n ≤ 9007199254740991
      · have h3 : 1 ≤ xs.length ∧ xs.length ≤ 8 ∧ 0 ≤ n ∧ n ≤ 9007199254740991 := ⟨hp, h2⟩
        rw [decide_eq_true h1, decide_eq_true h2, decide_eq_true h3]; rfl
      · have h3 : ¬ (1 ≤ xs.length ∧ xs.length ≤ 8 ∧ 0 ≤ n ∧ n ≤ 9007199254740991) := fun h => h2 h.2
        rw [decide_eq_true h1, decide_eq_false h2, decide_eq_false h3]; rfl
    · rw [decide_eq_false h1]; simp
  cases T
  · rw [askF_ok hg (by rw [e]; rfl)]; rfl
  · rw [askF_bad hg (by rw [e]; rfl)]; rfl

set_option maxHeartbeats 8000000 in
theorem rasked_pos (w : World) (xs : List Int) (m : Nat) (hm : Hid (xs.length = m)) (hp : 0 < m) (hmx : m ≤ 9223372036854775807) (n : Int) (g off c : Nat) (hg : g < w.heap.size) (hA : ∀ j u, (intsV xs)[j]? = some u → w.cell? ⟨g, off + j, none⟩ = some u) :
    Calls Try.prog 34 #[.slice (some ⟨g, off, none⟩) m c, .int .i64 n] w fun e w' => e = .returned (.int .i64 (askF xs n)) ∧ Below w.heap.size w w' := by
  have HA := Lib.hid hA
  obtain ⟨R, hR⟩ : ∃ R, allG xs = R := ⟨_, rfl⟩
  have HR : Hid (allG (xs.drop 0) = R) := Lib.hid hR
  have HF : Hid (R = false → askF xs n = 110) := Lib.hid (fun h => askF_no (hR.trans h))
  have HG : Hid (R = true → allG xs = true) := Lib.hid (fun h => hR.trans h)
  have hgrp : Hid (allG xs = true → ∀ j, j < xs.length → ∃ k : Nat, k < 16 ∧ xs[j]? = some ((k : Int) + 1)) := Lib.hid (fun hG j hj => by
    obtain ⟨h1, h2⟩ := allG_at hG hj
    exact ⟨(xs[j] - 1).toNat, by omega, by rw [List.getElem?_eq_getElem hj]; congr 1; omega⟩)
  have HV := Lib.hid (ask_val hm.out hp n)
  clear hA hR
  go_enter Try.func34, Try.ntmps34
  go_wp2
  go_loopw [5] (fun j wr => ∃ k : Nat, k ≤ m ∧ j = .int .i64 k ∧ Hid (allG (xs.drop k) = R) ∧ wr = w) (fun j _ => m - (intOf j).toNat)
  case atStart => exact ⟨0, by omega, rfl, HR, rfl⟩
  case round =>
    obtain ⟨k, hk, rfl, HK, hww⟩ := hrel
    subst hww
    by_cases hlt : k < m
    · have hkl : k < xs.length := by rw [hm.out]; exact hlt
      obtain ⟨x, hx⟩ : ∃ x, xs[k] = x := ⟨_, rfl⟩
      have HX := Lib.hid hx
      have cK := HA.out k _ (intsV_at hkl)
      rw [hx] at cK
      have HS := Lib.hid (allG_step hkl)
      rw [hx] at HS
      have k0 : (0 : Int) ≤ (k : Int) := by omega
      have k1 : (k : Int) < (m : Int) := by omega
      clear hx HX hkl
      cases hgx : grpB x
      · have HN : Hid (R = false) := Lib.hid (by rw [← HK.out, HS.out, hgx]; rfl)
        have hno : Hid (¬ (1 ≤ x ∧ x ≤ 16)) := Lib.hid (by rw [← grpB_iff, hgx]; simp)
        clear hgx
        go_wp2_with (first | (go_at_call 33; with_reducible refine (group_no x hno.out _).mono ?_; rintro e w0 ⟨rfl, hw0⟩; replace hw0 := hw0.symm; subst hw0))
        go_ret
        exact ⟨by rw [HF.out HN.out]; (first | done | rfl), by (repeat' (first | (with_reducible exact Below.refl _ _) | (with_reducible assumption) | (with_reducible refine Below.alloc ?_ ?_ _) | (with_reducible refine below_drewN ?_ _) | (with_reducible refine Below.drew ?_) | (with_reducible refine Below.setCell ?_ ?_ _) | (with_reducible refine below_two ?_ (by with_reducible assumption)) | go_size))⟩
      · have HN : Hid (allG (xs.drop (k + 1)) = R) := Lib.hid (by rw [← HK.out, HS.out, hgx]; rfl)
        obtain ⟨h1, h2⟩ := grpB_iff.1 hgx
        clear hgx
        go_wp2_with (first | (go_at_call 33; with_reducible refine (group_yes x h1 h2 _).mono ?_; rintro e w0 ⟨rfl, hw0⟩; replace hw0 := hw0.symm; subst hw0))
        go_roundw
        case rel => exact ⟨k + 1, by omega, by go_num, HN, trivial⟩
        case measure => simp [intOf]; omega
    · have HN : Hid (allG xs = true) := Lib.hid (HG.out (by rw [← HK.out, allG_end (by rw [hm.out]; omega)]))
      have hgr := Lib.hid (hgrp.out HN.out)
      obtain ⟨wo, hwo⟩ : ∃ wo : World, wo = wr := ⟨_, rfl⟩
      subst hwo
      have hz1 : ¬ (m : Int) < 1 := by omega
      have h5 : m ≤ 8 ∧ 0 ≤ n ∧ n ≤ 9007199254740991 ∧ Hid (decide (m ≤ 8 ∧ 0 ≤ n ∧ n ≤ 9007199254740991) = true) ∨ 8 < m ∧ Hid (decide (m ≤ 8 ∧ 0 ≤ n ∧ n ≤ 9007199254740991) = false) ∨ m ≤ 8 ∧ n < 0 ∧ Hid (decide (m ≤ 8 ∧ 0 ≤ n ∧ n ≤ 9007199254740991) = false) ∨ m ≤ 8 ∧ 0 ≤ n ∧ 9007199254740991 < n ∧ Hid (decide (m ≤ 8 ∧ 0 ≤ n ∧ n ≤ 9007199254740991) = false) := by
        by_cases a1 : m ≤ 8
        · by_cases a2 : 0 ≤ n
          · by_cases a3 : n ≤ 9007199254740991
            · exact .inl ⟨a1, a2, a3, Lib.hid (decide_eq_true ⟨a1, a2, a3⟩)⟩
            · exact .inr (.inr (.inr ⟨a1, a2, by omega, Lib.hid (decide_eq_false fun h => a3 h.2.2)⟩))
          · exact .inr (.inr (.inl ⟨a1, by omega, Lib.hid (decide_eq_false fun h => a2 h.2.1)⟩))
        · exact .inr (.inl ⟨by omega, Lib.hid (decide_eq_false fun h => a1 h.1)⟩)
      obtain ⟨OK, hOK⟩ : ∃ OK, Hid (decide (m ≤ 8 ∧ 0 ≤ n ∧ n ≤ 9007199254740991) = OK) := ⟨_, Lib.hid rfl⟩
      have hT0 : Hid ((!OK) = (!OK || !decide ((xs.take 0).Nodup))) := Lib.hid (by simp)
      have HV2 : Hid (∀ T : Bool, T = (!OK || !decide xs.Nodup) → askF xs n = bif T then 2 else 0) := Lib.hid (fun T h => HV.out HN.out T (by rw [hOK.out]; exact h))
      have h5' : (m ≤ 8 ∧ 0 ≤ n ∧ n ≤ 9007199254740991 ∧ Hid ((!OK) = false)) ∨ 8 < m ∧ Hid ((!OK) = true) ∨ m ≤ 8 ∧ n < 0 ∧ Hid ((!OK) = true) ∨ m ≤ 8 ∧ 0 ≤ n ∧ 9007199254740991 < n ∧ Hid ((!OK) = true) := by
        have e := hOK.out
        rcases h5 with ⟨a1, a2, a3, ha⟩ | ⟨a1, ha⟩ | ⟨a1, a2, ha⟩ | ⟨a1, a2, a3, ha⟩
        · exact .inl ⟨a1, a2, a3, Lib.hid (by rw [← e, ha.out]; rfl)⟩
        · exact .inr (.inl ⟨a1, Lib.hid (by rw [← e, ha.out]; rfl)⟩)
        · exact .inr (.inr (.inl ⟨a1, a2, Lib.hid (by rw [← e, ha.out]; rfl)⟩))
        · exact .inr (.inr (.inr ⟨a1, a2, a3, Lib.hid (by rw [← e, ha.out]; rfl)⟩))
      clear h5 hOK HV HG HF
      rcases h5' with ⟨a1, a2, a3, ha⟩ | ⟨a1, ha⟩ | ⟨a1, a2, ha⟩ | ⟨a1, a2, a3, ha⟩
      all_goals
        go_wp2
        go_loopw [6, 7, 8] (fun t q _ w2 => ∃ (T : Bool) (j : Nat), j ≤ m ∧ q = .int .i64 j ∧ t = .bool T ∧ Hid (T = (!OK || !decide ((xs.take j).Nodup))) ∧ Below wo.heap.size wo w2) (fun _ q _ _ => m - (intOf q).toNat)
        case atStart => exact ⟨!OK, 0, by omega, rfl, by (have e := ha.out; first | (rw [e]; done) | (rw [e]; congr 1; rw [Bool.eq_iff_iff]; simp; omega)), hT0, Below.refl _ _⟩
        case round =>
          obtain ⟨T, j, hj, rfl, rfl, HT, hw⟩ := hrel
          by_cases hjm : j < m
          · have hjl : j < xs.length := by rw [hm.out]; exact hjm
            obtain ⟨k, hk16, hxk⟩ := hgr.out j hjl
            have hxk' : xs[j] = (k : Int) + 1 := by rw [List.getElem?_eq_getElem hjl] at hxk; injection hxk
            have HX := Lib.hid (nodup_next hjl hxk')
            have cJ := HA.out j _ (intsV_at hjl)
            rw [hxk'] at cJ
            have hzw := hw.size
            obtain ⟨wb, hwb⟩ : ∃ wb : World, wb = wr := ⟨_, rfl⟩
            subst hwb
            have j0 : (0 : Int) ≤ (j : Int) := by omega
            have j1 : (j : Int) < (m : Int) := by omega
            clear hxk hxk' hjl
            go_wp2
            go_loopw [6, 8] (fun t q w3 => ∃ (S : Bool) (i : Nat), i ≤ j ∧ q = .int .i64 i ∧ t = .bool S ∧ Hid (S = (T || seenB xs i k)) ∧ Below wo.heap.size wo w3) (fun _ q _ => j - (intOf q).toNat)
            case atStart => exact ⟨T, 0, by omega, rfl, rfl, Lib.hid (by rw [seenB_zero, Bool.or_false]), hw⟩
            case round =>
              obtain ⟨S, i, hi, rfl, rfl, HS, hw3⟩ := hrel
              by_cases hij : i < j
              · have hil : i < xs.length := by rw [hm.out]; omega
                obtain ⟨y, hy⟩ : ∃ y, xs[i] = y := ⟨_, rfl⟩
                have cA := (hw3.cell (p := ⟨g, off + i, none⟩) hg).trans (HA.out i _ (intsV_at hil))
                have cB := (hw3.cell (p := ⟨g, off + j, none⟩) hg).trans cJ
                rw [hy] at cA
                have HN := Lib.hid (seenB_next (k := k) hil)
                rw [hy] at HN
                have i0 : (0 : Int) ≤ (i : Int) := by omega
                have i1 : (i : Int) < (m : Int) := by omega
                have i2 : (i : Int) < (j : Int) := by omega
                clear hy hil
                cases S
                · by_cases hyk : y = (k : Int) + 1
                  · have hN2 : Hid (true = (T || seenB xs (i + 1) k)) := Lib.hid (by rw [HN.out, decide_eq_true hyk]; simp)
                    have he : (y == (k : Int) + 1) = true := beq_iff_eq.2 hyk
                    clear hyk
                    go_wp2
                    go_quiet (fail)
                    go_wp2
                    go_roundw
                    case rel => exact ⟨true, i + 1, by omega, by go_num, rfl, hN2, by (repeat' (first | (with_reducible exact Below.refl _ _) | (with_reducible assumption) | (with_reducible refine Below.alloc ?_ ?_ _) | (with_reducible refine below_drewN ?_ _) | (with_reducible refine Below.drew ?_) | (with_reducible refine Below.setCell ?_ ?_ _) | (with_reducible refine below_two ?_ (by with_reducible assumption)) | go_size))⟩
                    case measure => simp [intOf]; omega
                  · have hN2 : Hid (false = (T || seenB xs (i + 1) k)) := Lib.hid (by rw [HN.out, decide_eq_false hyk, Bool.or_false]; exact HS.out)
                    have he : (y == (k : Int) + 1) = false := beq_eq_false_iff_ne.2 hyk
                    clear hyk
                    go_wp2
                    go_quiet (fail)
                    go_wp2
                    go_roundw
                    case rel => exact ⟨false, i + 1, by omega, by go_num, rfl, hN2, by (repeat' (first | (with_reducible exact Below.refl _ _) | (with_reducible assumption) | (with_reducible refine Below.alloc ?_ ?_ _) | (with_reducible refine below_drewN ?_ _) | (with_reducible refine Below.drew ?_) | (with_reducible refine Below.setCell ?_ ?_ _) | (with_reducible refine below_two ?_ (by with_reducible assumption)) | go_size))⟩
                    case measure => simp [intOf]; omega
                · have hN2 : Hid (true = (T || seenB xs (i + 1) k)) := Lib.hid (by rw [HN.out, ← Bool.or_assoc, ← HS.out]; rfl)
                  go_wp2
                  go_quiet (fail)
                  go_wp2
                  go_roundw
                  case rel => exact ⟨true, i + 1, by omega, by go_num, rfl, hN2, by (repeat' (first | (with_reducible exact Below.refl _ _) | (with_reducible assumption) | (with_reducible refine Below.alloc ?_ ?_ _) | (with_reducible refine below_drewN ?_ _) | (with_reducible refine Below.drew ?_) | (with_reducible refine Below.setCell ?_ ?_ _) | (with_reducible refine below_two ?_ (by with_reducible assumption)) | go_size))⟩
                  case measure => simp [intOf]; omega
              · have hij' : i = j := by omega
                subst hij'
                have HN : Hid (S = (!OK || !decide ((xs.take (i + 1)).Nodup))) := Lib.hid (by rw [HS.out, HT.out, HX.out]; cases OK <;> cases decide ((xs.take i).Nodup) <;> cases seenB xs i k <;> rfl)
                go_wp2
                go_roundw
                case rel => exact ⟨S, i + 1, by omega, by go_num, rfl, HN, hw3⟩
                case measure => simp [intOf]; omega
          · have hjm' : j = m := by omega
            have HT2 : Hid (askF xs n = bif T then 2 else 0) := Lib.hid (HV2.out T (by
              have h := HT.out
              rwa [List.take_of_length_le (by rw [hm.out]; omega)] at h))
            clear HT
            cases T
            · go_wp2
              go_ret
              exact ⟨by rw [HT2.out]; (first | done | rfl), by (repeat' (first | (with_reducible exact Below.refl _ _) | (with_reducible assumption) | (with_reducible refine Below.alloc ?_ ?_ _) | (with_reducible refine below_drewN ?_ _) | (with_reducible refine Below.drew ?_) | (with_reducible refine Below.setCell ?_ ?_ _) | (with_reducible refine below_two ?_ (by with_reducible assumption)) | go_size))⟩
            · go_wp2
              go_ret
              exact ⟨by rw [HT2.out]; (first | done | rfl), by (repeat' (first | (with_reducible exact Below.refl _ _) | (with_reducible assumption) | (with_reducible refine Below.alloc ?_ ?_ _) | (with_reducible refine below_drewN ?_ _) | (with_reducible refine Below.drew ?_) | (with_reducible refine Below.setCell ?_ ?_ _) | (with_reducible refine below_two ?_ (by with_reducible assumption)) | go_size))⟩

theorem rasked_nil (w : World) (n : Int) (A : Option Addr) (c : Nat) :
    Calls Try.prog 34 #[.slice A 0 c, .int .i64 n] w fun e w' => e = .returned (.int .i64 2) ∧ Below w.heap.size w w' := by
  go_enter Try.func34, Try.ntmps34
  go_wp2
  refine wp_loop_rounds 1 ?_
  rw [rounds_succ]
  go_wp2
  refine wp_loop_rounds 1 ?_
  rw [rounds_succ]
  go_wp2
  go_ret
  exact ⟨rfl, by (repeat' (first | (with_reducible exact Below.refl _ _) | (with_reducible assumption) | (with_reducible refine Below.alloc ?_ ?_ _) | (with_reducible refine below_drewN ?_ _) | (with_reducible refine Below.drew ?_) | (with_reducible refine Below.setCell ?_ ?_ _) | (with_reducible refine below_two ?_ (by with_reducible assumption)) | go_size))⟩

theorem rasked_any (w : World) (xs : List Int) (m : Nat) (hm : Hid (xs.length = m)) (hmx : m ≤ 9223372036854775807) (n : Int) (A : Option Addr) (c : Nat) (hA : Row w A (intsV xs)) (e : Int) (he : askF xs n = e) :
    Calls Try.prog 34 #[.slice A m c, .int .i64 n] w fun r w' => r = .returned (.int .i64 e) ∧ Below w.heap.size w w' := by
  subst he
  rcases Nat.eq_zero_or_pos m with h0 | hp
  · have hx : xs = [] := List.eq_nil_of_length_eq_zero (hm.out.trans h0)
    subst hx h0
    exact rasked_nil w n A c
  · obtain ⟨g, off, rfl, hg, hc⟩ := hA (by rw [intsV_len, hm.out]; exact hp)
    exact rasked_pos w xs m hm hp hmx n g off c hg hc

end Go.Proofs.Ytnbeofbkfopehaa
