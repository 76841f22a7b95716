/-
  same: do both stand alike?
-/
import Derived.Test.YtodaknidbdicdaaStep
import Derived.WalkKit
import Derived.Deep.DeepMust
import Derived.WalkSpells
import Derived.WalkLawsBesides
import Derived.Handy
import Derived.Lib.Hide
import Derived.Deep.QuietTactic
import Derived.BigQuiet
namespace Go.Proofs.Ytodaknidbdicdaa
open Go.RowKit

section
variable {B r da ra na b : Nat} {gs : List Nat} {G : Gr}
set_option maxRecDepth 100000 in
set_option maxHeartbeats 2000000 in
theorem same_any (W w : World) (h : Both W w b B r da ra na gs G) : Calls Try.prog 12 #[.pointer (some ⟨b, 0, none⟩), .pointer (some ⟨r, 0, none⟩)] w fun e w' =>
    e = .returned (.bool true) ∧ Both W w' b B r da ra na gs G := by
  obtain ⟨hO, hR, hI, hB, lb, lB⟩ := h
  have HI := Lib.hid hI
  clear hI
  go_enter Try.func12, Try.ntmps12
  go_wp2_with (first | (go_at_call 14; (with_reducible refine (done_any _ b gs G hO HI.out).mono ?_); rintro e w1 ⟨rfl, hb1⟩; replace hO := hO.below hb1; replace hR := hR.below hb1; replace hB := hB.trans (hb1.mono hB.size); clear hb1) | (go_at_call 35; (with_reducible refine (rdone_any _ hR).mono ?_); rintro e w2 ⟨rfl, hb2⟩; replace hO := hO.below hb2; replace hR := hR.below hb2; replace hB := hB.trans (hb2.mono hB.size); clear hb2))
  go_loopw [9] (fun q wr => ∃ s : Int, -1 ≤ s ∧ s ≤ 9 ∧ q = .int .i64 s ∧ wr = w2) (fun q _ => (9 - intOf q).toNat)
  case atStart => exact ⟨-1, by omega, by omega, rfl, rfl⟩
  case round =>
    obtain ⟨s, hs1, hs2, rfl, rfl⟩ := hrel
    by_cases hc : s < 9
    · obtain ⟨p, hp⟩ : ∃ p, depF G s = p := ⟨_, rfl⟩
      obtain ⟨q, hq⟩ : ∃ q, waiF G s = q := ⟨_, rfl⟩
      obtain ⟨n, hn⟩ : ∃ n, wanF G s = n := ⟨_, rfl⟩
      have HP := Lib.hid hp
      have HQ := Lib.hid hq
      have HN := Lib.hid hn
      clear hp hq hn
      have hnn : (n != n) = false := by cases n <;> rfl
      go_wp2_with (first | (go_at_call 19; (with_reducible refine (depth_any _ b gs G hO HI.out s).mono ?_); rintro e wq ⟨rfl, hwq⟩; replace hwq := hwq.symm; subst hwq; rw [HP.out]) | (go_at_call 36; (with_reducible refine (rdepth_any _ hR HI.out s).mono ?_); rintro e wq ⟨rfl, hwq⟩; replace hwq := hwq.symm; subst hwq; rw [HP.out]) | (go_at_call 9; (with_reducible refine (waitsOf_any _ b gs G hO HI.out s).mono ?_); rintro e wq ⟨rfl, hwq⟩; replace hwq := hwq.symm; subst hwq; rw [HQ.out]) | (go_at_call 37; (with_reducible refine (rwaits_any _ hR HI.out s).mono ?_); rintro e wq ⟨rfl, hwq⟩; replace hwq := hwq.symm; subst hwq; rw [HQ.out]) | (go_at_call 20; (with_reducible refine (wanted_any _ b gs G hO HI.out s).mono ?_); rintro e wq ⟨rfl, hwq⟩; replace hwq := hwq.symm; subst hwq; rw [HN.out]) | (go_at_call 38; (with_reducible refine (rwanted_any _ hR HI.out s).mono ?_); rintro e wq ⟨rfl, hwq⟩; replace hwq := hwq.symm; subst hwq; rw [HN.out]))
      go_roundw
      case rel => exact ⟨s + 1, by omega, by omega, by go_num, trivial⟩
      case measure => simp [intOf]; omega
    · obtain rfl : s = 9 := by omega
      go_wp2
      go_ret
      exact ⟨rfl, hO, hR, HI.out, hB, lb, lB⟩
end

end Go.Proofs.Ytodaknidbdicdaa
