/-
  Out, anything written, and Back, is the object as it was laid: GuardRound returns true. No condition.
-/
import Derived.Test.YtindgcbnpbhciaaLawC
import Derived.Test.YtindgcbnpbhciaaOpenRow
import Derived.SizedLaws
import Derived.DataShut
import Derived.Test.YtindgcbnpbhciaaFrame
import Derived.ProofKit
namespace Go.Proofs.Ytindgcbnpbhciaa
open Go.ChangeShapes Go.WideShapes Go.ChangeAt Go.RowKit

theorem Try.ownGuardRound : ownKnob Try.prog.godebug = none := by kernel_rfl
theorem Try.laidGuardRound : laidOutB Try.prog = true := by kernel_rfl

set_option maxRecDepth 100000 in
theorem guardRound_lifted (os : Os) (started : os.Started) (H : Type) (enc : TypeId × Value → H) :
    ReturnsInHanded {} Try.checked os 6 .any (Rows.guardRoundSpec.pre6 enc Try.prog Try.f6 Rows.guardRoundRow.domain false) (Rows.guardRoundSpec.post enc Try.prog Try.f6 false true false false) := by
  refine law_lifted (C := Try.checked) (tb := 4) Try.ownGuardRound started (by kernel_rfl) Try.func6 Try.laidGuardRound rfl rfl Try.underlying4 (by kernel_rfl)
    (fun ds hds => by
      have hds' : ds.length = 3 := hds
      match ds, hds' with
      | [d0, d1, d2], _ => rfl)
    (ChangeSpec.witness6 (enc := enc) (C := Try.checked) false ⟨#[], #[.int .i64 0, .slice none 0 0, .int .i64 0], []⟩ 8 (by kernel_rfl) (by kernel_rfl) (by kernel_rfl) (by kernel_rfl)) ?_
  intro W base args ds p hval0 hA0 hlt _hfz hsz0
  have hval : ∀ (j : Nat) t v, Try.f6.params[j]? = some t → args[j]? = some v → Value.okWide Try.prog W .any base t v := hval0
  have hA : DataW.TrodAll enc Try.prog W 0 (fun _ => true) true Try.f6.params.toList args.toList ds p := hA0
  have hsz : (DataW.weightsEach Try.prog Try.f6.params.toList ds).all (· ≤ reachBytes) = true := hsz0
  rw [Try.params6] at hA hval hsz
  obtain ⟨v0, v1, v2, d0, d1, d2, p0, p1, p2, rfl, rfl, rfl, h0, h1, h2⟩ := trodAll_three hA
  obtain ⟨n0, rfl, -, -, -⟩ := open_int Try.underlying3 (hval 0 3 v0 rfl rfl) h0
  obtain ⟨xs, A, c, rfl, hX, hwf, -, hd, hcap⟩ := open_row Try.underlying22 Try.underlying5 (by kernel_rfl) (hval 1 22 v1 rfl rfl) h1
  have hr : xs.length ≤ 140737488355328 := by
    rcases hd with ⟨-, rfl⟩ | ⟨el, sp, rfl, hle⟩
    · rw [List.length_nil]; omega
    · have hb := sized_slice hsz (j := 1) rfl rfl Try.underlying22
      rw [show Try.prog.bytesOf 5 = 1 by kernel_rfl] at hb
      have := reachBytes_lt
      omega
  obtain ⟨n2, rfl, -, -, -⟩ := open_int Try.underlying3 (hval 2 3 v2 rfl rfl) h2
  exact round_any n0 xs xs.length (Lib.hid rfl) A c (by omega) n2 W hX

theorem guardRound_holds : Rows.GuardRoundSaid :=
  OpenClaim.holds_of_wide 6 Try.f6 rfl rfl rfl rfl rfl rfl rfl ⟨rfl, rfl, rfl, rfl, rfl⟩ rfl rfl rfl rfl rfl (by kernel_rfl) Try.func6 (by kernel_rfl)
    (of_decide_eq_true (by kernel_rfl)) (by unfold Func.isWrapper; first | (rw [if_pos (by decide +kernel)]; kernel_rfl) | (rw [if_neg (by decide +kernel)]; exact ⟨rfl, rfl⟩))
    (fun os started H enc _ => guardRound_lifted os started H enc)

end Go.Proofs.Ytindgcbnpbhciaa
