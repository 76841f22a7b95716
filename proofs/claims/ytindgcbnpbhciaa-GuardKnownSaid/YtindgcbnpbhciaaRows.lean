/-
  No cell of these rows narrows 'for every input' (looked for: loops, veiled, ifaces, maps, wideKeys, modest, calm, conditions, laid).
  DERIVED. THE GIVEN ROWS OF THIS SEAT. 6 by the template 'for every input the law returns true; each argument reads behind the call as it read before'; 0 by the template 'total and deterministic' (their statements: YtindgcbnpbhciaaTotals.lean).
  GIVEN WITH THE SEED: the statements are not yours to turn. If you find one false, say at which input.
  Laid BY PROGRAM, IN A SANDBOX (cutbox-rows.mjs): the forced cells as the released guide's own fill.sh prints them over the translation ae912ff0ae77d187… (all of the seat's roots in one cut). By AI agents, Wed Nov 11 2026. No macro, syntax, notation, axiom, sorry.
-/
import Derived.Test.YtindgcbnpbhciaaChecked
import GoSem.Claim
import GoSem.ClaimJoined
import GoSem.ClaimMapViews
import Derived.JoinedTies
import Derived.KernelRfl
namespace Go.Proofs.Ytindgcbnpbhciaa
/- THE CELL 'sum', in the pinned program and in every row, IS THE sha256 OF THE DUMP (.gsa) THAT YtindgcbnpbhciaaProg.lean LOADS. Nothing in Lean hashes anything: it is a label: what it is worth is what the hold of that sum in a sandbox is worth. -/
noncomputable def Try.pinned : Pinned := { name := "ytindgcbnpbhciaa", sum := "ae912ff0ae77d187b86080565e1ad89a00111b2696fd6da3a6b77c356de4cf4e", checked := Try.checked }
namespace Rows
def none {H : Type} : Left H := { results := [], args := [] }

/-- 'wainscotlaw18.GuardLays': WHATEVER THE INPUT: true; the input reads as it did. -/
def guardLaysSpec : ChangeSpec := { name := "guardLays", fn := fun _ => fun
  | [d] => { results := [.lit (.bool true)], args := [d] }
  | _ => none }
def guardLaysRow : OpenClaim := { program := "ytindgcbnpbhciaa", sum := "ae912ff0ae77d187b86080565e1ad89a00111b2696fd6da3a6b77c356de4cf4e", func := "wainscot/wainscotlaw18.GuardLays", spec := "guardLays", inPlace := ["internal/bytealg.MakeNoZero"], unfollowed := true, recurses := true, apart := false }
def GuardLaysSaid : Prop := guardLaysRow.holds Try.pinned (OpenSpec.ofChange guardLaysSpec)

/-- ITS FALSE NEIGHBOUR: 'it returns false'. Refute it at one input. -/
def guardLaysWrong : ChangeSpec := { name := "guardLays", fn := fun _ => fun
  | [d] => { results := [.lit (.bool false)], args := [d] }
  | _ => none }
def GuardLaysWrongFalsely : Prop := guardLaysRow.holds Try.pinned (OpenSpec.ofChange guardLaysWrong)

/-- 'wainscotlaw18.GuardApart': WHATEVER THE INPUT: true; the input reads as it did. -/
def guardApartSpec : ChangeSpec := { name := "guardApart", fn := fun _ => fun
  | [d] => { results := [.lit (.bool true)], args := [d] }
  | _ => none }
def guardApartRow : OpenClaim := { program := "ytindgcbnpbhciaa", sum := "ae912ff0ae77d187b86080565e1ad89a00111b2696fd6da3a6b77c356de4cf4e", func := "wainscot/wainscotlaw18.GuardApart", spec := "guardApart", inPlace := ["internal/bytealg.MakeNoZero"], unfollowed := true, recurses := true, apart := false }
def GuardApartSaid : Prop := guardApartRow.holds Try.pinned (OpenSpec.ofChange guardApartSpec)

/-- ITS FALSE NEIGHBOUR: 'it returns false'. Refute it at one input. -/
def guardApartWrong : ChangeSpec := { name := "guardApart", fn := fun _ => fun
  | [d] => { results := [.lit (.bool false)], args := [d] }
  | _ => none }
def GuardApartWrongFalsely : Prop := guardApartRow.holds Try.pinned (OpenSpec.ofChange guardApartWrong)

/-- 'wainscotlaw18.GuardTurns': WHATEVER THE INPUT: true; the input reads as it did. -/
def guardTurnsSpec : ChangeSpec := { name := "guardTurns", fn := fun _ => fun
  | [d1, d2] => { results := [.lit (.bool true)], args := [d1, d2] }
  | _ => none }
def guardTurnsRow : OpenClaim := { program := "ytindgcbnpbhciaa", sum := "ae912ff0ae77d187b86080565e1ad89a00111b2696fd6da3a6b77c356de4cf4e", func := "wainscot/wainscotlaw18.GuardTurns", spec := "guardTurns", inPlace := ["internal/bytealg.MakeNoZero"], unfollowed := true, recurses := true, apart := false }
def GuardTurnsSaid : Prop := guardTurnsRow.holds Try.pinned (OpenSpec.ofChange guardTurnsSpec)

/-- ITS FALSE NEIGHBOUR: 'it returns false'. Refute it at one input. -/
def guardTurnsWrong : ChangeSpec := { name := "guardTurns", fn := fun _ => fun
  | [d1, d2] => { results := [.lit (.bool false)], args := [d1, d2] }
  | _ => none }
def GuardTurnsWrongFalsely : Prop := guardTurnsRow.holds Try.pinned (OpenSpec.ofChange guardTurnsWrong)

/-- 'wainscotlaw18.GuardRound': WHATEVER THE INPUT: true; the input reads as it did. -/
def guardRoundSpec : ChangeSpec := { name := "guardRound", fn := fun _ => fun
  | [d1, d2, d3] => { results := [.lit (.bool true)], args := [d1, d2, d3] }
  | _ => none }
def guardRoundRow : OpenClaim := { program := "ytindgcbnpbhciaa", sum := "ae912ff0ae77d187b86080565e1ad89a00111b2696fd6da3a6b77c356de4cf4e", func := "wainscot/wainscotlaw18.GuardRound", spec := "guardRound", inPlace := ["internal/bytealg.MakeNoZero"], unfollowed := true, recurses := true, apart := false }
def GuardRoundSaid : Prop := guardRoundRow.holds Try.pinned (OpenSpec.ofChange guardRoundSpec)

/-- ITS FALSE NEIGHBOUR: 'it returns false'. Refute it at one input. -/
def guardRoundWrong : ChangeSpec := { name := "guardRound", fn := fun _ => fun
  | [d1, d2, d3] => { results := [.lit (.bool false)], args := [d1, d2, d3] }
  | _ => none }
def GuardRoundWrongFalsely : Prop := guardRoundRow.holds Try.pinned (OpenSpec.ofChange guardRoundWrong)

/-- 'wainscotlaw18.GuardTold': WHATEVER THE INPUT: true; the input reads as it did. -/
def guardToldSpec : ChangeSpec := { name := "guardTold", fn := fun _ => fun
  | [d1, d2, d3] => { results := [.lit (.bool true)], args := [d1, d2, d3] }
  | _ => none }
def guardToldRow : OpenClaim := { program := "ytindgcbnpbhciaa", sum := "ae912ff0ae77d187b86080565e1ad89a00111b2696fd6da3a6b77c356de4cf4e", func := "wainscot/wainscotlaw18.GuardTold", spec := "guardTold", inPlace := ["internal/bytealg.MakeNoZero"], unfollowed := true, recurses := true, apart := false }
def GuardToldSaid : Prop := guardToldRow.holds Try.pinned (OpenSpec.ofChange guardToldSpec)

/-- ITS FALSE NEIGHBOUR: 'it returns false'. Refute it at one input. -/
def guardToldWrong : ChangeSpec := { name := "guardTold", fn := fun _ => fun
  | [d1, d2, d3] => { results := [.lit (.bool false)], args := [d1, d2, d3] }
  | _ => none }
def GuardToldWrongFalsely : Prop := guardToldRow.holds Try.pinned (OpenSpec.ofChange guardToldWrong)

/-- 'wainscotlaw18.GuardKnown': WHATEVER THE INPUT: true; the input reads as it did. -/
def guardKnownSpec : ChangeSpec := { name := "guardKnown", fn := fun _ => fun
  | [] => { results := [.lit (.bool true)], args := [] }
  | _ => none }
def guardKnownRow : OpenClaim := { program := "ytindgcbnpbhciaa", sum := "ae912ff0ae77d187b86080565e1ad89a00111b2696fd6da3a6b77c356de4cf4e", func := "wainscot/wainscotlaw18.GuardKnown", spec := "guardKnown", inPlace := ["internal/bytealg.MakeNoZero"], unfollowed := true, recurses := true, apart := false }
def GuardKnownSaid : Prop := guardKnownRow.holds Try.pinned (OpenSpec.ofChange guardKnownSpec)

/-- ITS FALSE NEIGHBOUR: 'it returns false'. Refute it at one input. -/
def guardKnownWrong : ChangeSpec := { name := "guardKnown", fn := fun _ => fun
  | [] => { results := [.lit (.bool false)], args := [] }
  | _ => none }
def GuardKnownWrongFalsely : Prop := guardKnownRow.holds Try.pinned (OpenSpec.ofChange guardKnownWrong)

/- THE SECOND FORM. 'bulk': how many values and letters a reading holds, each counted each time it is reached (what is shared counts as often as it is met; a slice's spare places count too). A statement '..UptoSaid' is the law's where the arguments, and the package variables that the reading takes, are together of bulk at most 1048576: NARROWER than '..Said'. Prove '..Said' where nothing that the law and all that it calls make is longer than what came in: it says more and counts as full. Else prove '..UptoSaid'. A law counts once. -/
mutual
def uptoBulk {H : Type} : DataW H → Nat
  | .lit (.string bytes) => bytes.length + 1
  | .lit _ => 1
  | .nil => 1
  | .ptr d => uptoBulk d + 1
  | .slice elems spare => uptoBulkAll elems + uptoBulkAll spare + 1
  | .agg parts => uptoBulkAll parts + 1
  | .iface _ d => uptoBulk d + 1
  | .map entries => uptoBulkEntries entries + 1
  | .held _ => 1
def uptoBulkAll {H : Type} : List (DataW H) → Nat
  | [] => 0
  | d :: r => uptoBulk d + uptoBulkAll r
def uptoBulkEntries {H : Type} : List (Lit × DataW H) → Nat
  | [] => 0
  | x :: r => uptoBulkEntry x + uptoBulkEntries r
def uptoBulkEntry {H : Type} : Lit × DataW H → Nat
  | (.string bytes, d) => bytes.length + uptoBulk d + 1
  | (_, d) => uptoBulk d + 1
 end
def uptoSmall : (H : Type) → List (DataW H) → Bool := fun _ ds => decide (uptoBulkAll ds ≤ 1048576)
def OpenSpec.upto (s : _root_.Go.ChangeSpec) : _root_.Go.OpenSpec := { _root_.Go.OpenSpec.ofChange s with cond := some uptoSmall }

/-- 'wainscotlaw18.GuardLays', WHERE WHAT IT READS IS OF BULK AT MOST 1048576: true; the input reads as it did. -/
def guardLaysUptoRow : OpenClaim := { program := "ytindgcbnpbhciaa", sum := "ae912ff0ae77d187b86080565e1ad89a00111b2696fd6da3a6b77c356de4cf4e", func := "wainscot/wainscotlaw18.GuardLays", spec := "guardLays", inPlace := ["internal/bytealg.MakeNoZero"], unfollowed := true, recurses := true, apart := false, narrowed := true }
def GuardLaysUptoSaid : Prop := guardLaysUptoRow.holds Try.pinned (OpenSpec.upto guardLaysSpec)

/-- 'wainscotlaw18.GuardApart', WHERE WHAT IT READS IS OF BULK AT MOST 1048576: true; the input reads as it did. -/
def guardApartUptoRow : OpenClaim := { program := "ytindgcbnpbhciaa", sum := "ae912ff0ae77d187b86080565e1ad89a00111b2696fd6da3a6b77c356de4cf4e", func := "wainscot/wainscotlaw18.GuardApart", spec := "guardApart", inPlace := ["internal/bytealg.MakeNoZero"], unfollowed := true, recurses := true, apart := false, narrowed := true }
def GuardApartUptoSaid : Prop := guardApartUptoRow.holds Try.pinned (OpenSpec.upto guardApartSpec)

/-- 'wainscotlaw18.GuardTurns', WHERE WHAT IT READS IS OF BULK AT MOST 1048576: true; the input reads as it did. -/
def guardTurnsUptoRow : OpenClaim := { program := "ytindgcbnpbhciaa", sum := "ae912ff0ae77d187b86080565e1ad89a00111b2696fd6da3a6b77c356de4cf4e", func := "wainscot/wainscotlaw18.GuardTurns", spec := "guardTurns", inPlace := ["internal/bytealg.MakeNoZero"], unfollowed := true, recurses := true, apart := false, narrowed := true }
def GuardTurnsUptoSaid : Prop := guardTurnsUptoRow.holds Try.pinned (OpenSpec.upto guardTurnsSpec)

/-- 'wainscotlaw18.GuardRound', WHERE WHAT IT READS IS OF BULK AT MOST 1048576: true; the input reads as it did. -/
def guardRoundUptoRow : OpenClaim := { program := "ytindgcbnpbhciaa", sum := "ae912ff0ae77d187b86080565e1ad89a00111b2696fd6da3a6b77c356de4cf4e", func := "wainscot/wainscotlaw18.GuardRound", spec := "guardRound", inPlace := ["internal/bytealg.MakeNoZero"], unfollowed := true, recurses := true, apart := false, narrowed := true }
def GuardRoundUptoSaid : Prop := guardRoundUptoRow.holds Try.pinned (OpenSpec.upto guardRoundSpec)

/-- 'wainscotlaw18.GuardTold', WHERE WHAT IT READS IS OF BULK AT MOST 1048576: true; the input reads as it did. -/
def guardToldUptoRow : OpenClaim := { program := "ytindgcbnpbhciaa", sum := "ae912ff0ae77d187b86080565e1ad89a00111b2696fd6da3a6b77c356de4cf4e", func := "wainscot/wainscotlaw18.GuardTold", spec := "guardTold", inPlace := ["internal/bytealg.MakeNoZero"], unfollowed := true, recurses := true, apart := false, narrowed := true }
def GuardToldUptoSaid : Prop := guardToldUptoRow.holds Try.pinned (OpenSpec.upto guardToldSpec)

/-- 'wainscotlaw18.GuardKnown', WHERE WHAT IT READS IS OF BULK AT MOST 1048576: true; the input reads as it did. -/
def guardKnownUptoRow : OpenClaim := { program := "ytindgcbnpbhciaa", sum := "ae912ff0ae77d187b86080565e1ad89a00111b2696fd6da3a6b77c356de4cf4e", func := "wainscot/wainscotlaw18.GuardKnown", spec := "guardKnown", inPlace := ["internal/bytealg.MakeNoZero"], unfollowed := true, recurses := true, apart := false, narrowed := true }
def GuardKnownUptoSaid : Prop := guardKnownUptoRow.holds Try.pinned (OpenSpec.upto guardKnownSpec)

end Rows
end Go.Proofs.Ytindgcbnpbhciaa
