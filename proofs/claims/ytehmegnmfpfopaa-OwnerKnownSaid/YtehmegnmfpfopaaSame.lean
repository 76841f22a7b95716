/-
  same: do both stand alike?
-/
import Derived.Test.YtehmegnmfpfopaaWorks
import Derived.Test.YtehmegnmfpfopaaRefE
import Derived.WalkKit
import Derived.Deep.DeepMust
import Derived.WalkSpells
import Derived.WalkLawsBesides
import Derived.Handy
import Derived.Lib.Hide
import Derived.Deep.QuietTactic
import Derived.BigQuiet
namespace Go.Proofs.Ytehmegnmfpfopaa
open Go.RowKit

section
variable {B r S O ga c : Nat} {F : Int → Int → Int} {gs : List Nat}
theorem w64_small {x : Int} (h1 : -1000000 ≤ x) (h2 : x ≤ 1000000) : w64 x := w64_iff.2 ⟨by omega, by omega⟩

set_option maxRecDepth 100000 in
set_option maxHeartbeats 4000000 in
theorem same_any (w : World) (b m n : Nat) (hO : OwnAt w b m S O n F) (hR : RefIn w B r S O F ga c gs) : Calls Try.prog 16 #[.pointer (some ⟨b, 0, none⟩), .pointer (some ⟨r, 0, none⟩)] w fun e w' =>
    e = .returned (.bool true) ∧ Below w.heap.size w w' := by
  have HO := Lib.hid hO
  have HR := Lib.hid hR
  have hF1 := Lib.hid (fun x y h => (hO.in_ x y h).1)
  have hF2 := Lib.hid (fun x y h => (hO.in_ x y h).2)
  have hS : (S : Int) ≤ 256 := by have := hO.s2; omega
  clear hO hR
  go_enter Try.func16, Try.ntmps16
  go_wp2
  go_loopw [5, 6] (fun q _ wr => ∃ s : Int, -1 ≤ s ∧ s ≤ 40 ∧ q = .int .i64 s ∧ Below w.heap.size w wr) (fun q _ _ => (40 - intOf q).toNat)
  case atStart => exact ⟨-1, by omega, by omega, rfl, Below.refl _ _⟩
  case round =>
    obtain ⟨s, hs1, hs2, rfl, hb⟩ := hrel
    have c0 := (HR.out.below hb).cell0
    have hs64 := Lib.hid (w64_small (x := s) (by omega) (by omega))
    by_cases hc : s ≤ S ∧ s < 40
    · obtain ⟨hc1, hc2⟩ := hc
      go_wp2_with (first | (go_at_call 19; (with_reducible refine (empty_any _ b m S O n F (HO.out.below hb) s hs64.out).mono ?_); rintro e w1 ⟨rfl, hb1⟩; replace hb := hb.trans (hb1.mono hb.size); clear hb1) | (go_at_call 26; (with_reducible refine (rempty_any _ (HR.out.below hb) s).mono ?_); rintro e wq ⟨rfl, hwq⟩; replace hwq := hwq.symm; subst hwq))
      go_loopw [6] (fun q w2 => ∃ i : Int, -1 ≤ i ∧ i ≤ 17 ∧ q = .int .i64 i ∧ w2 = w1) (fun q _ => (17 - intOf q).toNat)
      case atStart => exact ⟨-1, by omega, by omega, rfl, rfl⟩
      case round =>
        obtain ⟨i, hi1, hi2, rfl, rfl⟩ := hrel
        have hi64 := Lib.hid (w64_small (x := i) (by omega) (by omega))
        by_cases hi : i < 17
        · go_wp2_with (first | (go_at_call 18; (with_reducible refine (of_any _ b m S O n F (HO.out.below hb) s i hs64.out hi64.out).mono ?_); rintro e wq ⟨rfl, hwq⟩; replace hwq := hwq.symm; subst hwq) | (go_at_call 27; (with_reducible refine (rof_any _ (HR.out.below hb) hF1.out s i).mono ?_); rintro e wq ⟨rfl, hwq⟩; replace hwq := hwq.symm; subst hwq))
          go_roundw
          case rel => exact ⟨i + 1, by omega, by omega, by go_num, trivial⟩
          case measure => simp [intOf]; omega
        · obtain rfl : i = 17 := by omega
          go_wp2
          go_roundw
          case rel => exact ⟨s + 1, by omega, by omega, by go_num, hb⟩
          case measure => simp [intOf]; omega
    · rcases (by omega : ¬ s ≤ S ∨ (s ≤ S ∧ ¬ s < 40)) with h1 | ⟨h1, h2⟩
      all_goals
        clear hs64
        go_wp2
        go_loopw [7] (fun q w2 => ∃ g : Int, -1 ≤ g ∧ g ≤ 18 ∧ q = .int .i64 g ∧ Below w.heap.size w w2) (fun q _ => (18 - intOf q).toNat)
        case atStart => exact ⟨-1, by omega, by omega, rfl, hb⟩
        case round =>
          clear hb
          obtain ⟨g, hg1, hg2, rfl, hb⟩ := hrel
          by_cases hg : g < 18
          · go_wp2_with (first | (go_at_call 20; (with_reducible refine (count_any _ b m S O n F (HO.out.below hb) g).mono ?_); rintro e w1 ⟨rfl, hb1⟩; replace hb := hb.trans (hb1.mono hb.size); clear hb1) | (go_at_call 28; (with_reducible refine (rcount_any _ (HR.out.below hb) hF2.out g).mono ?_); rintro e wq ⟨rfl, hwq⟩; replace hwq := hwq.symm; subst hwq))
            go_roundw
            case rel => exact ⟨g + 1, by omega, by omega, by go_num, hb⟩
            case measure => simp [intOf]; omega
          · obtain rfl : g = 18 := by omega
            go_wp2
            go_ret
            exact ⟨rfl, hb⟩
end

end Go.Proofs.Ytehmegnmfpfopaa
