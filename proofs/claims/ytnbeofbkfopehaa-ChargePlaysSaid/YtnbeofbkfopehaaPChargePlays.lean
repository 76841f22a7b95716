/-
  The counters answer as the reference does, call by call: ChargePlays returns true. No condition.
-/
import Derived.Test.YtnbeofbkfopehaaLawC
import Derived.SizedLaws
import Derived.Test.YtnbeofbkfopehaaOpenDoS
import Derived.DataShut
import Derived.Test.YtnbeofbkfopehaaFrame
import Derived.ProofKit
namespace Go.Proofs.Ytnbeofbkfopehaa
open Go.ChangeShapes Go.WideShapes Go.ChangeAt Go.RowKit

theorem Try.ownChargePlays : ownKnob Try.prog.godebug = none := by kernel_rfl
theorem Try.laidChargePlays : laidOutB Try.prog = true := by kernel_rfl

set_option maxRecDepth 100000 in
theorem chargePlays_lifted (os : Os) (started : os.Started) (H : Type) (enc : TypeId × Value → H) :
    ReturnsInHanded {} Try.checked os 4 .any (Rows.chargePlaysSpec.pre6 enc Try.prog Try.f4 Rows.chargePlaysRow.domain false) (Rows.chargePlaysSpec.post enc Try.prog Try.f4 false true false false) := by
  refine law_lifted (C := Try.checked) (tb := 4) Try.ownChargePlays started (by kernel_rfl) Try.func4 Try.laidChargePlays rfl rfl Try.underlying4 (by kernel_rfl)
    (fun ds hds => by
      have hds' : ds.length = 1 := hds
      match ds, hds' with
      | [d0], _ => rfl)
    (ChangeSpec.witness6 (enc := enc) (C := Try.checked) false ⟨#[], #[.slice none 0 0], []⟩ 8 (by kernel_rfl) (by kernel_rfl) (by kernel_rfl) (by kernel_rfl)) ?_
  intro W base args ds p hval0 hA0 hlt _hfz hsz0
  have hval : ∀ (j : Nat) t v, Try.f4.params[j]? = some t → args[j]? = some v → Value.okWide Try.prog W .any base t v := hval0
  have hA : DataW.TrodAll enc Try.prog W 0 (fun _ => true) true Try.f4.params.toList args.toList ds p := hA0
  have hsz : (DataW.weightsEach Try.prog Try.f4.params.toList ds).all (· ≤ reachBytes) = true := hsz0
  rw [Try.params4] at hA hval hsz
  obtain ⟨v0, d0, rfl, rfl, h0⟩ := trodAll_one hA
  have hw0 : ∀ n ∈ d0.weights Try.prog 22, n ≤ reachBytes := fun n hn => by
    have := List.all_eq_true.1 hsz _ (DataW.weights_mem_each (j := 0) rfl rfl n hn)
    simpa using this
  obtain ⟨l, A, c, D, rfl, -, hX, hS⟩ := open_dos_s (hval 0 22 v0 rfl rfl) h0 hw0
  exact plays_any l A c D W hX (Lib.hid hS)

theorem chargePlays_holds : Rows.ChargePlaysSaid :=
  OpenClaim.holds_of_wide 4 Try.f4 rfl rfl rfl rfl rfl rfl rfl ⟨rfl, rfl, rfl, rfl, rfl⟩ rfl rfl rfl rfl rfl (by kernel_rfl) Try.func4 (by kernel_rfl)
    (of_decide_eq_true (by kernel_rfl)) (by unfold Func.isWrapper; first | (rw [if_pos (by decide +kernel)]; kernel_rfl) | (rw [if_neg (by decide +kernel)]; exact ⟨rfl, rfl⟩))
    (fun os started H enc _ => chargePlays_lifted os started H enc)

end Go.Proofs.Ytnbeofbkfopehaa
