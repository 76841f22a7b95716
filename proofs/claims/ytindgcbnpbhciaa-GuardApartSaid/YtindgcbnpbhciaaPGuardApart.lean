/-
  What is as it is in is not as it is out: GuardApart returns true. No condition.
-/
import Derived.Test.YtindgcbnpbhciaaLawB
import Derived.Test.YtindgcbnpbhciaaOpenRow
import Derived.SizedLaws
import Derived.DataShut
import Derived.Test.YtindgcbnpbhciaaFrame
import Derived.ProofKit
namespace Go.Proofs.Ytindgcbnpbhciaa
open Go.ChangeShapes Go.WideShapes Go.ChangeAt Go.RowKit

theorem Try.ownGuardApart : ownKnob Try.prog.godebug = none := by kernel_rfl
theorem Try.laidGuardApart : laidOutB Try.prog = true := by kernel_rfl

set_option maxRecDepth 100000 in
theorem guardApart_lifted (os : Os) (started : os.Started) (H : Type) (enc : TypeId × Value → H) :
    ReturnsInHanded {} Try.checked os 4 .any (Rows.guardApartSpec.pre6 enc Try.prog Try.f4 Rows.guardApartRow.domain false) (Rows.guardApartSpec.post enc Try.prog Try.f4 false true false false) := by
  refine law_lifted (C := Try.checked) (tb := 4) Try.ownGuardApart started (by kernel_rfl) Try.func4 Try.laidGuardApart rfl rfl Try.underlying4 (by kernel_rfl)
    (fun ds hds => by
      have hds' : ds.length = 1 := hds
      match ds, hds' with
      | [d0], _ => rfl)
    (ChangeSpec.witness6 (enc := enc) (C := Try.checked) false ⟨#[], #[.slice none 0 0], []⟩ 8 (by kernel_rfl) (by kernel_rfl) (by kernel_rfl) (by kernel_rfl)) ?_
  intro W base args ds p hval0 hA0 hlt _hfz hsz0
  have hval : ∀ (j : Nat) t v, Try.f4.params[j]? = some t → args[j]? = some v → Value.okWide Try.prog W .any base t v := hval0
  have hA : DataW.TrodAll enc Try.prog W 0 (fun _ => true) true Try.f4.params.toList args.toList ds p := hA0
  have hsz : (DataW.weightsEach Try.prog Try.f4.params.toList ds).all (· ≤ reachBytes) = true := hsz0
  rw [Try.params4] at hA hval hsz
  obtain ⟨v0, d0, rfl, rfl, h0⟩ := trodAll_one hA
  obtain ⟨xs, A, c, rfl, hX, hwf, -, hd, hcap⟩ := open_row Try.underlying22 Try.underlying5 (by kernel_rfl) (hval 0 22 v0 rfl rfl) h0
  have hr : xs.length ≤ 140737488355328 := by
    rcases hd with ⟨-, rfl⟩ | ⟨el, sp, rfl, hle⟩
    · rw [List.length_nil]; omega
    · have hb := sized_slice hsz (j := 0) rfl rfl Try.underlying22
      rw [show Try.prog.bytesOf 5 = 1 by kernel_rfl] at hb
      have := reachBytes_lt
      omega
  exact apart_any xs xs.length (Lib.hid rfl) A c hcap (by omega) W hX

theorem guardApart_holds : Rows.GuardApartSaid :=
  OpenClaim.holds_of_wide 4 Try.f4 rfl rfl rfl rfl rfl rfl rfl ⟨rfl, rfl, rfl, rfl, rfl⟩ rfl rfl rfl rfl rfl (by kernel_rfl) Try.func4 (by kernel_rfl)
    (of_decide_eq_true (by kernel_rfl)) (by unfold Func.isWrapper; first | (rw [if_pos (by decide +kernel)]; kernel_rfl) | (rw [if_neg (by decide +kernel)]; exact ⟨rfl, rfl⟩))
    (fun os started H enc _ => guardApart_lifted os started H enc)

end Go.Proofs.Ytindgcbnpbhciaa
