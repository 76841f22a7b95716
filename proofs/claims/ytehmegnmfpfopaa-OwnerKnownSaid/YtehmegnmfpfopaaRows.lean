/-
  No cell of these rows narrows 'for every input' (looked for: loops, veiled, ifaces, maps, wideKeys, modest, calm, conditions, laid).
  DERIVED. THE GIVEN ROWS OF THIS SEAT. 4 by the template 'for every input the law returns true; each argument reads behind the call as it read before'; 0 by the template 'total and deterministic' (their statements: YtehmegnmfpfopaaTotals.lean).
  GIVEN WITH THE SEED: the statements are not yours to turn. If you find one false, say at which input.
  Laid BY PROGRAM, IN A SANDBOX (cutbox-rows.mjs): the forced cells as the released guide's own fill.sh prints them over the translation 4e6d97f128db7b1e… (all of the seat's roots in one cut). By AI agents, Wed Nov 11 2026. No macro, syntax, notation, axiom, sorry.
-/
import Derived.Test.YtehmegnmfpfopaaChecked
import GoSem.Claim
import GoSem.ClaimJoined
import GoSem.ClaimMapViews
import Derived.JoinedTies
import Derived.KernelRfl
namespace Go.Proofs.Ytehmegnmfpfopaa
/- THE CELL 'sum', in the pinned program and in every row, IS THE sha256 OF THE DUMP (.gsa) THAT YtehmegnmfpfopaaProg.lean LOADS. Nothing in Lean hashes anything: it is a label: what it is worth is what the hold of that sum in a sandbox is worth. -/
noncomputable def Try.pinned : Pinned := { name := "ytehmegnmfpfopaa", sum := "4e6d97f128db7b1ef13d99ed73580f45c80b1c3667cd1c78eff255b49beae465", checked := Try.checked }
namespace Rows
def none {H : Type} : Left H := { results := [], args := [] }

/-- 'wainscotlaw14.OwnerPlays': WHATEVER THE INPUT: true; the input reads as it did. -/
def ownerPlaysSpec : ChangeSpec := { name := "ownerPlays", fn := fun _ => fun
  | [d1, d2, d3] => { results := [.lit (.bool true)], args := [d1, d2, d3] }
  | _ => none }
def ownerPlaysRow : OpenClaim := { program := "ytehmegnmfpfopaa", sum := "4e6d97f128db7b1ef13d99ed73580f45c80b1c3667cd1c78eff255b49beae465", func := "wainscot/wainscotlaw14.OwnerPlays", spec := "ownerPlays", plainKeys := false, apart := false }
def OwnerPlaysSaid : Prop := ownerPlaysRow.holds Try.pinned (OpenSpec.ofChange ownerPlaysSpec)

/-- ITS FALSE NEIGHBOUR: 'it returns false'. Refute it at one input. -/
def ownerPlaysWrong : ChangeSpec := { name := "ownerPlays", fn := fun _ => fun
  | [d1, d2, d3] => { results := [.lit (.bool false)], args := [d1, d2, d3] }
  | _ => none }
def OwnerPlaysWrongFalsely : Prop := ownerPlaysRow.holds Try.pinned (OpenSpec.ofChange ownerPlaysWrong)

/-- 'wainscotlaw14.OwnerOnce': WHATEVER THE INPUT: true; the input reads as it did. -/
def ownerOnceSpec : ChangeSpec := { name := "ownerOnce", fn := fun _ => fun
  | [d] => { results := [.lit (.bool true)], args := [d] }
  | _ => none }
def ownerOnceRow : OpenClaim := { program := "ytehmegnmfpfopaa", sum := "4e6d97f128db7b1ef13d99ed73580f45c80b1c3667cd1c78eff255b49beae465", func := "wainscot/wainscotlaw14.OwnerOnce", spec := "ownerOnce", plainKeys := false, apart := false }
def OwnerOnceSaid : Prop := ownerOnceRow.holds Try.pinned (OpenSpec.ofChange ownerOnceSpec)

/-- ITS FALSE NEIGHBOUR: 'it returns false'. Refute it at one input. -/
def ownerOnceWrong : ChangeSpec := { name := "ownerOnce", fn := fun _ => fun
  | [d] => { results := [.lit (.bool false)], args := [d] }
  | _ => none }
def OwnerOnceWrongFalsely : Prop := ownerOnceRow.holds Try.pinned (OpenSpec.ofChange ownerOnceWrong)

/-- 'wainscotlaw14.OwnerMoves': WHATEVER THE INPUT: true; the input reads as it did. -/
def ownerMovesSpec : ChangeSpec := { name := "ownerMoves", fn := fun _ => fun
  | [d1, d2, d3] => { results := [.lit (.bool true)], args := [d1, d2, d3] }
  | _ => none }
def ownerMovesRow : OpenClaim := { program := "ytehmegnmfpfopaa", sum := "4e6d97f128db7b1ef13d99ed73580f45c80b1c3667cd1c78eff255b49beae465", func := "wainscot/wainscotlaw14.OwnerMoves", spec := "ownerMoves", plainKeys := false, apart := false }
def OwnerMovesSaid : Prop := ownerMovesRow.holds Try.pinned (OpenSpec.ofChange ownerMovesSpec)

/-- ITS FALSE NEIGHBOUR: 'it returns false'. Refute it at one input. -/
def ownerMovesWrong : ChangeSpec := { name := "ownerMoves", fn := fun _ => fun
  | [d1, d2, d3] => { results := [.lit (.bool false)], args := [d1, d2, d3] }
  | _ => none }
def OwnerMovesWrongFalsely : Prop := ownerMovesRow.holds Try.pinned (OpenSpec.ofChange ownerMovesWrong)

/-- 'wainscotlaw14.OwnerKnown': WHATEVER THE INPUT: true; the input reads as it did. -/
def ownerKnownSpec : ChangeSpec := { name := "ownerKnown", fn := fun _ => fun
  | [] => { results := [.lit (.bool true)], args := [] }
  | _ => none }
def ownerKnownRow : OpenClaim := { program := "ytehmegnmfpfopaa", sum := "4e6d97f128db7b1ef13d99ed73580f45c80b1c3667cd1c78eff255b49beae465", func := "wainscot/wainscotlaw14.OwnerKnown", spec := "ownerKnown", plainKeys := false, apart := false }
def OwnerKnownSaid : Prop := ownerKnownRow.holds Try.pinned (OpenSpec.ofChange ownerKnownSpec)

/-- ITS FALSE NEIGHBOUR: 'it returns false'. Refute it at one input. -/
def ownerKnownWrong : ChangeSpec := { name := "ownerKnown", fn := fun _ => fun
  | [] => { results := [.lit (.bool false)], args := [] }
  | _ => none }
def OwnerKnownWrongFalsely : Prop := ownerKnownRow.holds Try.pinned (OpenSpec.ofChange ownerKnownWrong)

/- THE SECOND FORM. 'bulk': how many values and letters a reading holds, each counted each time it is reached (what is shared counts as often as it is met; a slice's spare places count too). A statement '..UptoSaid' is the law's where the arguments, and the package variables that the reading takes, are together of bulk at most 1048576: NARROWER than '..Said'. Prove '..Said' where nothing that the law and all that it calls make is longer than what came in: it says more and counts as full. Else prove '..UptoSaid'. A law counts once. -/
mutual
def uptoBulk {H : Type} : DataW H → Nat
  | .lit (.string bytes) => bytes.length + 1
  | .lit _ => 1
  | .nil => 1
  | .ptr d => uptoBulk d + 1
  | .slice elems spare => uptoBulkAll elems + uptoBulkAll spare + 1
  | .agg parts => uptoBulkAll parts + 1
  | .iface _ d => uptoBulk d + 1
  | .map entries => uptoBulkEntries entries + 1
  | .held _ => 1
def uptoBulkAll {H : Type} : List (DataW H) → Nat
  | [] => 0
  | d :: r => uptoBulk d + uptoBulkAll r
def uptoBulkEntries {H : Type} : List (Lit × DataW H) → Nat
  | [] => 0
  | x :: r => uptoBulkEntry x + uptoBulkEntries r
def uptoBulkEntry {H : Type} : Lit × DataW H → Nat
  | (.string bytes, d) => bytes.length + uptoBulk d + 1
  | (_, d) => uptoBulk d + 1
 end
def uptoSmall : (H : Type) → List (DataW H) → Bool := fun _ ds => decide (uptoBulkAll ds ≤ 1048576)
def OpenSpec.upto (s : _root_.Go.ChangeSpec) : _root_.Go.OpenSpec := { _root_.Go.OpenSpec.ofChange s with cond := some uptoSmall }

/-- 'wainscotlaw14.OwnerPlays', WHERE WHAT IT READS IS OF BULK AT MOST 1048576: true; the input reads as it did. -/
def ownerPlaysUptoRow : OpenClaim := { program := "ytehmegnmfpfopaa", sum := "4e6d97f128db7b1ef13d99ed73580f45c80b1c3667cd1c78eff255b49beae465", func := "wainscot/wainscotlaw14.OwnerPlays", spec := "ownerPlays", plainKeys := false, apart := false, narrowed := true }
def OwnerPlaysUptoSaid : Prop := ownerPlaysUptoRow.holds Try.pinned (OpenSpec.upto ownerPlaysSpec)

/-- 'wainscotlaw14.OwnerOnce', WHERE WHAT IT READS IS OF BULK AT MOST 1048576: true; the input reads as it did. -/
def ownerOnceUptoRow : OpenClaim := { program := "ytehmegnmfpfopaa", sum := "4e6d97f128db7b1ef13d99ed73580f45c80b1c3667cd1c78eff255b49beae465", func := "wainscot/wainscotlaw14.OwnerOnce", spec := "ownerOnce", plainKeys := false, apart := false, narrowed := true }
def OwnerOnceUptoSaid : Prop := ownerOnceUptoRow.holds Try.pinned (OpenSpec.upto ownerOnceSpec)

/-- 'wainscotlaw14.OwnerMoves', WHERE WHAT IT READS IS OF BULK AT MOST 1048576: true; the input reads as it did. -/
def ownerMovesUptoRow : OpenClaim := { program := "ytehmegnmfpfopaa", sum := "4e6d97f128db7b1ef13d99ed73580f45c80b1c3667cd1c78eff255b49beae465", func := "wainscot/wainscotlaw14.OwnerMoves", spec := "ownerMoves", plainKeys := false, apart := false, narrowed := true }
def OwnerMovesUptoSaid : Prop := ownerMovesUptoRow.holds Try.pinned (OpenSpec.upto ownerMovesSpec)

/-- 'wainscotlaw14.OwnerKnown', WHERE WHAT IT READS IS OF BULK AT MOST 1048576: true; the input reads as it did. -/
def ownerKnownUptoRow : OpenClaim := { program := "ytehmegnmfpfopaa", sum := "4e6d97f128db7b1ef13d99ed73580f45c80b1c3667cd1c78eff255b49beae465", func := "wainscot/wainscotlaw14.OwnerKnown", spec := "ownerKnown", plainKeys := false, apart := false, narrowed := true }
def OwnerKnownUptoSaid : Prop := ownerKnownUptoRow.holds Try.pinned (OpenSpec.upto ownerKnownSpec)

end Rows
end Go.Proofs.Ytehmegnmfpfopaa
