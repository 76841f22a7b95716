/-
  Check, Out and Back answer as the reference does, of all bytes: GuardTurns returns true. No condition.
-/
import Derived.Test.YtindgcbnpbhciaaLawB
import Derived.Test.YtindgcbnpbhciaaOpenRow
import Derived.SizedLaws
import Derived.DataShut
import Derived.Test.YtindgcbnpbhciaaFrame
import Derived.ProofKit
namespace Go.Proofs.Ytindgcbnpbhciaa
open Go.ChangeShapes Go.WideShapes Go.ChangeAt Go.RowKit

theorem Try.ownGuardTurns : ownKnob Try.prog.godebug = none := by kernel_rfl
theorem Try.laidGuardTurns : laidOutB Try.prog = true := by kernel_rfl

set_option maxRecDepth 100000 in
theorem guardTurns_lifted (os : Os) (started : os.Started) (H : Type) (enc : TypeId × Value → H) :
    ReturnsInHanded {} Try.checked os 5 .any (Rows.guardTurnsSpec.pre6 enc Try.prog Try.f5 Rows.guardTurnsRow.domain false) (Rows.guardTurnsSpec.post enc Try.prog Try.f5 false true false false) := by
  refine law_lifted (C := Try.checked) (tb := 4) Try.ownGuardTurns started (by kernel_rfl) Try.func5 Try.laidGuardTurns rfl rfl Try.underlying4 (by kernel_rfl)
    (fun ds hds => by
      have hds' : ds.length = 2 := hds
      match ds, hds' with
      | [d0, d1], _ => rfl)
    (ChangeSpec.witness6 (enc := enc) (C := Try.checked) false ⟨#[], #[.slice none 0 0, .bool false], []⟩ 8 (by kernel_rfl) (by kernel_rfl) (by kernel_rfl) (by kernel_rfl)) ?_
  intro W base args ds p hval0 hA0 hlt _hfz hsz0
  have hval : ∀ (j : Nat) t v, Try.f5.params[j]? = some t → args[j]? = some v → Value.okWide Try.prog W .any base t v := hval0
  have hA : DataW.TrodAll enc Try.prog W 0 (fun _ => true) true Try.f5.params.toList args.toList ds p := hA0
  have hsz : (DataW.weightsEach Try.prog Try.f5.params.toList ds).all (· ≤ reachBytes) = true := hsz0
  rw [Try.params5] at hA hval hsz
  obtain ⟨v0, v1, d0, d1, p0, p1, rfl, rfl, rfl, h0, h1⟩ := trodAll_two hA
  obtain ⟨xs, A, c, rfl, hX, hwf, -, hd, hcap⟩ := open_row Try.underlying22 Try.underlying5 (by kernel_rfl) (hval 0 22 v0 rfl rfl) h0
  have hr : xs.length ≤ 140737488355328 := by
    rcases hd with ⟨-, rfl⟩ | ⟨el, sp, rfl, hle⟩
    · rw [List.length_nil]; omega
    · have hb := sized_slice hsz (j := 0) rfl rfl Try.underlying22
      rw [show Try.prog.bytesOf 5 = 1 by kernel_rfl] at hb
      have := reachBytes_lt
      omega
  have hby : By xs := fun x hx => by
    have h := (Lit.wf_int_iff _ _).1 (hwf x hx)
    exact ⟨h.1, by have h2 := h.2; simp [IntKind.max, IntKind.bits] at h2; omega⟩
  obtain ⟨b1, rfl, -, -⟩ := open_bool Try.underlying4 (hval 1 4 v1 rfl rfl) h1
  exact turns_any xs xs.length (Lib.hid rfl) (Lib.hid hby) A c hcap hr b1 W hX

theorem guardTurns_holds : Rows.GuardTurnsSaid :=
  OpenClaim.holds_of_wide 5 Try.f5 rfl rfl rfl rfl rfl rfl rfl ⟨rfl, rfl, rfl, rfl, rfl⟩ rfl rfl rfl rfl rfl (by kernel_rfl) Try.func5 (by kernel_rfl)
    (of_decide_eq_true (by kernel_rfl)) (by unfold Func.isWrapper; first | (rw [if_pos (by decide +kernel)]; kernel_rfl) | (rw [if_neg (by decide +kernel)]; exact ⟨rfl, rfl⟩))
    (fun os started H enc _ => guardTurns_lifted os started H enc)

end Go.Proofs.Ytindgcbnpbhciaa
