/-
  No cell of these rows narrows 'for every input' (looked for: loops, veiled, ifaces, maps, wideKeys, modest, calm, conditions, laid).
  DERIVED. THE GIVEN ROWS OF THIS SEAT. 5 by the template 'for every input the law returns true; each argument reads behind the call as it read before'; 0 by the template 'total and deterministic' (their statements: YtnbeofbkfopehaaTotals.lean).
  GIVEN WITH THE SEED: the statements are not yours to turn. If you find one false, say at which input.
  Laid BY PROGRAM, IN A SANDBOX (cutbox-rows.mjs): the forced cells as the released guide's own fill.sh prints them over the translation 89bb90af4c154a4f… (all of the seat's roots in one cut). By AI agents, Wed Nov 11 2026. No macro, syntax, notation, axiom, sorry.
-/
import Derived.Test.YtnbeofbkfopehaaChecked
import GoSem.Claim
import GoSem.ClaimJoined
import GoSem.ClaimMapViews
import Derived.JoinedTies
import Derived.KernelRfl
namespace Go.Proofs.Ytnbeofbkfopehaa
/- THE CELL 'sum', in the pinned program and in every row, IS THE sha256 OF THE DUMP (.gsa) THAT YtnbeofbkfopehaaProg.lean LOADS. Nothing in Lean hashes anything: it is a label: what it is worth is what the hold of that sum in a sandbox is worth. -/
noncomputable def Try.pinned : Pinned := { name := "ytnbeofbkfopehaa", sum := "89bb90af4c154a4fac20d3aa6b1e9ace25209ed05863f469f352952673828f73", checked := Try.checked }
namespace Rows
def none {H : Type} : Left H := { results := [], args := [] }

/-- 'wainscotlaw12.ChargeSums': WHATEVER THE INPUT: true; the input reads as it did. -/
def chargeSumsSpec : ChangeSpec := { name := "chargeSums", fn := fun _ => fun
  | [d] => { results := [.lit (.bool true)], args := [d] }
  | _ => none }
def chargeSumsRow : OpenClaim := { program := "ytnbeofbkfopehaa", sum := "89bb90af4c154a4fac20d3aa6b1e9ace25209ed05863f469f352952673828f73", func := "wainscot/wainscotlaw12.ChargeSums", spec := "chargeSums", unfollowed := true, recurses := true, apart := false }
def ChargeSumsSaid : Prop := chargeSumsRow.holds Try.pinned (OpenSpec.ofChange chargeSumsSpec)

/-- ITS FALSE NEIGHBOUR: 'it returns false'. Refute it at one input. -/
def chargeSumsWrong : ChangeSpec := { name := "chargeSums", fn := fun _ => fun
  | [d] => { results := [.lit (.bool false)], args := [d] }
  | _ => none }
def ChargeSumsWrongFalsely : Prop := chargeSumsRow.holds Try.pinned (OpenSpec.ofChange chargeSumsWrong)

/-- 'wainscotlaw12.ChargePlays': WHATEVER THE INPUT: true; the input reads as it did. -/
def chargePlaysSpec : ChangeSpec := { name := "chargePlays", fn := fun _ => fun
  | [d] => { results := [.lit (.bool true)], args := [d] }
  | _ => none }
def chargePlaysRow : OpenClaim := { program := "ytnbeofbkfopehaa", sum := "89bb90af4c154a4fac20d3aa6b1e9ace25209ed05863f469f352952673828f73", func := "wainscot/wainscotlaw12.ChargePlays", spec := "chargePlays", unfollowed := true, recurses := true, apart := false }
def ChargePlaysSaid : Prop := chargePlaysRow.holds Try.pinned (OpenSpec.ofChange chargePlaysSpec)

/-- ITS FALSE NEIGHBOUR: 'it returns false'. Refute it at one input. -/
def chargePlaysWrong : ChangeSpec := { name := "chargePlays", fn := fun _ => fun
  | [d] => { results := [.lit (.bool false)], args := [d] }
  | _ => none }
def ChargePlaysWrongFalsely : Prop := chargePlaysRow.holds Try.pinned (OpenSpec.ofChange chargePlaysWrong)

/-- 'wainscotlaw12.ChargeBounds': WHATEVER THE INPUT: true; the input reads as it did. -/
def chargeBoundsSpec : ChangeSpec := { name := "chargeBounds", fn := fun _ => fun
  | [d] => { results := [.lit (.bool true)], args := [d] }
  | _ => none }
def chargeBoundsRow : OpenClaim := { program := "ytnbeofbkfopehaa", sum := "89bb90af4c154a4fac20d3aa6b1e9ace25209ed05863f469f352952673828f73", func := "wainscot/wainscotlaw12.ChargeBounds", spec := "chargeBounds", unfollowed := true, recurses := true, apart := false }
def ChargeBoundsSaid : Prop := chargeBoundsRow.holds Try.pinned (OpenSpec.ofChange chargeBoundsSpec)

/-- ITS FALSE NEIGHBOUR: 'it returns false'. Refute it at one input. -/
def chargeBoundsWrong : ChangeSpec := { name := "chargeBounds", fn := fun _ => fun
  | [d] => { results := [.lit (.bool false)], args := [d] }
  | _ => none }
def ChargeBoundsWrongFalsely : Prop := chargeBoundsRow.holds Try.pinned (OpenSpec.ofChange chargeBoundsWrong)

/-- 'wainscotlaw12.ChargeBack': WHATEVER THE INPUT: true; the input reads as it did. -/
def chargeBackSpec : ChangeSpec := { name := "chargeBack", fn := fun _ => fun
  | [d1, d2, d3] => { results := [.lit (.bool true)], args := [d1, d2, d3] }
  | _ => none }
def chargeBackRow : OpenClaim := { program := "ytnbeofbkfopehaa", sum := "89bb90af4c154a4fac20d3aa6b1e9ace25209ed05863f469f352952673828f73", func := "wainscot/wainscotlaw12.ChargeBack", spec := "chargeBack", unfollowed := true, recurses := true, apart := false }
def ChargeBackSaid : Prop := chargeBackRow.holds Try.pinned (OpenSpec.ofChange chargeBackSpec)

/-- ITS FALSE NEIGHBOUR: 'it returns false'. Refute it at one input. -/
def chargeBackWrong : ChangeSpec := { name := "chargeBack", fn := fun _ => fun
  | [d1, d2, d3] => { results := [.lit (.bool false)], args := [d1, d2, d3] }
  | _ => none }
def ChargeBackWrongFalsely : Prop := chargeBackRow.holds Try.pinned (OpenSpec.ofChange chargeBackWrong)

/-- 'wainscotlaw12.ChargeKnown': WHATEVER THE INPUT: true; the input reads as it did. -/
def chargeKnownSpec : ChangeSpec := { name := "chargeKnown", fn := fun _ => fun
  | [] => { results := [.lit (.bool true)], args := [] }
  | _ => none }
def chargeKnownRow : OpenClaim := { program := "ytnbeofbkfopehaa", sum := "89bb90af4c154a4fac20d3aa6b1e9ace25209ed05863f469f352952673828f73", func := "wainscot/wainscotlaw12.ChargeKnown", spec := "chargeKnown", unfollowed := true, recurses := true, apart := false }
def ChargeKnownSaid : Prop := chargeKnownRow.holds Try.pinned (OpenSpec.ofChange chargeKnownSpec)

/-- ITS FALSE NEIGHBOUR: 'it returns false'. Refute it at one input. -/
def chargeKnownWrong : ChangeSpec := { name := "chargeKnown", fn := fun _ => fun
  | [] => { results := [.lit (.bool false)], args := [] }
  | _ => none }
def ChargeKnownWrongFalsely : Prop := chargeKnownRow.holds Try.pinned (OpenSpec.ofChange chargeKnownWrong)

/- THE SECOND FORM. 'bulk': how many values and letters a reading holds, each counted each time it is reached (what is shared counts as often as it is met; a slice's spare places count too). A statement '..UptoSaid' is the law's where the arguments, and the package variables that the reading takes, are together of bulk at most 1048576: NARROWER than '..Said'. Prove '..Said' where nothing that the law and all that it calls make is longer than what came in: it says more and counts as full. Else prove '..UptoSaid'. A law counts once. -/
mutual
def uptoBulk {H : Type} : DataW H → Nat
  | .lit (.string bytes) => bytes.length + 1
  | .lit _ => 1
  | .nil => 1
  | .ptr d => uptoBulk d + 1
  | .slice elems spare => uptoBulkAll elems + uptoBulkAll spare + 1
  | .agg parts => uptoBulkAll parts + 1
  | .iface _ d => uptoBulk d + 1
  | .map entries => uptoBulkEntries entries + 1
  | .held _ => 1
def uptoBulkAll {H : Type} : List (DataW H) → Nat
  | [] => 0
  | d :: r => uptoBulk d + uptoBulkAll r
def uptoBulkEntries {H : Type} : List (Lit × DataW H) → Nat
  | [] => 0
  | x :: r => uptoBulkEntry x + uptoBulkEntries r
def uptoBulkEntry {H : Type} : Lit × DataW H → Nat
  | (.string bytes, d) => bytes.length + uptoBulk d + 1
  | (_, d) => uptoBulk d + 1
 end
def uptoSmall : (H : Type) → List (DataW H) → Bool := fun _ ds => decide (uptoBulkAll ds ≤ 1048576)
def OpenSpec.upto (s : _root_.Go.ChangeSpec) : _root_.Go.OpenSpec := { _root_.Go.OpenSpec.ofChange s with cond := some uptoSmall }

/-- 'wainscotlaw12.ChargeSums', WHERE WHAT IT READS IS OF BULK AT MOST 1048576: true; the input reads as it did. -/
def chargeSumsUptoRow : OpenClaim := { program := "ytnbeofbkfopehaa", sum := "89bb90af4c154a4fac20d3aa6b1e9ace25209ed05863f469f352952673828f73", func := "wainscot/wainscotlaw12.ChargeSums", spec := "chargeSums", unfollowed := true, recurses := true, apart := false, narrowed := true }
def ChargeSumsUptoSaid : Prop := chargeSumsUptoRow.holds Try.pinned (OpenSpec.upto chargeSumsSpec)

/-- 'wainscotlaw12.ChargePlays', WHERE WHAT IT READS IS OF BULK AT MOST 1048576: true; the input reads as it did. -/
def chargePlaysUptoRow : OpenClaim := { program := "ytnbeofbkfopehaa", sum := "89bb90af4c154a4fac20d3aa6b1e9ace25209ed05863f469f352952673828f73", func := "wainscot/wainscotlaw12.ChargePlays", spec := "chargePlays", unfollowed := true, recurses := true, apart := false, narrowed := true }
def ChargePlaysUptoSaid : Prop := chargePlaysUptoRow.holds Try.pinned (OpenSpec.upto chargePlaysSpec)

/-- 'wainscotlaw12.ChargeBounds', WHERE WHAT IT READS IS OF BULK AT MOST 1048576: true; the input reads as it did. -/
def chargeBoundsUptoRow : OpenClaim := { program := "ytnbeofbkfopehaa", sum := "89bb90af4c154a4fac20d3aa6b1e9ace25209ed05863f469f352952673828f73", func := "wainscot/wainscotlaw12.ChargeBounds", spec := "chargeBounds", unfollowed := true, recurses := true, apart := false, narrowed := true }
def ChargeBoundsUptoSaid : Prop := chargeBoundsUptoRow.holds Try.pinned (OpenSpec.upto chargeBoundsSpec)

/-- 'wainscotlaw12.ChargeBack', WHERE WHAT IT READS IS OF BULK AT MOST 1048576: true; the input reads as it did. -/
def chargeBackUptoRow : OpenClaim := { program := "ytnbeofbkfopehaa", sum := "89bb90af4c154a4fac20d3aa6b1e9ace25209ed05863f469f352952673828f73", func := "wainscot/wainscotlaw12.ChargeBack", spec := "chargeBack", unfollowed := true, recurses := true, apart := false, narrowed := true }
def ChargeBackUptoSaid : Prop := chargeBackUptoRow.holds Try.pinned (OpenSpec.upto chargeBackSpec)

/-- 'wainscotlaw12.ChargeKnown', WHERE WHAT IT READS IS OF BULK AT MOST 1048576: true; the input reads as it did. -/
def chargeKnownUptoRow : OpenClaim := { program := "ytnbeofbkfopehaa", sum := "89bb90af4c154a4fac20d3aa6b1e9ace25209ed05863f469f352952673828f73", func := "wainscot/wainscotlaw12.ChargeKnown", spec := "chargeKnown", unfollowed := true, recurses := true, apart := false, narrowed := true }
def ChargeKnownUptoSaid : Prop := chargeKnownUptoRow.holds Try.pinned (OpenSpec.upto chargeKnownSpec)

end Rows
end Go.Proofs.Ytnbeofbkfopehaa
