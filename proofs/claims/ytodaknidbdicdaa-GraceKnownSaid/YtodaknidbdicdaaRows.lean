/-
  No cell of these rows narrows 'for every input' (looked for: loops, veiled, ifaces, maps, wideKeys, modest, calm, conditions, laid).
  DERIVED. THE GIVEN ROWS OF THIS SEAT. 3 by the template 'for every input the law returns true; each argument reads behind the call as it read before'; 0 by the template 'total and deterministic' (their statements: YtodaknidbdicdaaTotals.lean).
  GIVEN WITH THE SEED: the statements are not yours to turn. If you find one false, say at which input.
  Laid BY PROGRAM, IN A SANDBOX (cutbox-rows.mjs): the forced cells as the released guide's own fill.sh prints them over the translation 0e6a673b8494f3e6… (all of the seat's roots in one cut). By AI agents, Wed Nov 11 2026. No macro, syntax, notation, axiom, sorry.
-/
import Derived.Test.YtodaknidbdicdaaChecked
import GoSem.Claim
import GoSem.ClaimJoined
import GoSem.ClaimMapViews
import Derived.JoinedTies
import Derived.KernelRfl
namespace Go.Proofs.Ytodaknidbdicdaa
/- THE CELL 'sum', in the pinned program and in every row, IS THE sha256 OF THE DUMP (.gsa) THAT YtodaknidbdicdaaProg.lean LOADS. Nothing in Lean hashes anything: it is a label: what it is worth is what the hold of that sum in a sandbox is worth. -/
noncomputable def Try.pinned : Pinned := { name := "ytodaknidbdicdaa", sum := "0e6a673b8494f3e6e84800aa8a90b40b48445a1ea17592e93d3701f2639644d3", checked := Try.checked }
namespace Rows
def none {H : Type} : Left H := { results := [], args := [] }

/-- 'wainscotlaw10.GraceWaits': WHATEVER THE INPUT: true; the input reads as it did. -/
def graceWaitsSpec : ChangeSpec := { name := "graceWaits", fn := fun _ => fun
  | [d] => { results := [.lit (.bool true)], args := [d] }
  | _ => none }
def graceWaitsRow : OpenClaim := { program := "ytodaknidbdicdaa", sum := "0e6a673b8494f3e6e84800aa8a90b40b48445a1ea17592e93d3701f2639644d3", func := "wainscot/wainscotlaw10.GraceWaits", spec := "graceWaits", apart := false }
def GraceWaitsSaid : Prop := graceWaitsRow.holds Try.pinned (OpenSpec.ofChange graceWaitsSpec)

/-- ITS FALSE NEIGHBOUR: 'it returns false'. Refute it at one input. -/
def graceWaitsWrong : ChangeSpec := { name := "graceWaits", fn := fun _ => fun
  | [d] => { results := [.lit (.bool false)], args := [d] }
  | _ => none }
def GraceWaitsWrongFalsely : Prop := graceWaitsRow.holds Try.pinned (OpenSpec.ofChange graceWaitsWrong)

/-- 'wainscotlaw10.GracePlays': WHATEVER THE INPUT: true; the input reads as it did. -/
def gracePlaysSpec : ChangeSpec := { name := "gracePlays", fn := fun _ => fun
  | [d1, d2] => { results := [.lit (.bool true)], args := [d1, d2] }
  | _ => none }
def gracePlaysRow : OpenClaim := { program := "ytodaknidbdicdaa", sum := "0e6a673b8494f3e6e84800aa8a90b40b48445a1ea17592e93d3701f2639644d3", func := "wainscot/wainscotlaw10.GracePlays", spec := "gracePlays", apart := false }
def GracePlaysSaid : Prop := gracePlaysRow.holds Try.pinned (OpenSpec.ofChange gracePlaysSpec)

/-- ITS FALSE NEIGHBOUR: 'it returns false'. Refute it at one input. -/
def gracePlaysWrong : ChangeSpec := { name := "gracePlays", fn := fun _ => fun
  | [d1, d2] => { results := [.lit (.bool false)], args := [d1, d2] }
  | _ => none }
def GracePlaysWrongFalsely : Prop := gracePlaysRow.holds Try.pinned (OpenSpec.ofChange gracePlaysWrong)

/-- 'wainscotlaw10.GraceKnown': WHATEVER THE INPUT: true; the input reads as it did. -/
def graceKnownSpec : ChangeSpec := { name := "graceKnown", fn := fun _ => fun
  | [] => { results := [.lit (.bool true)], args := [] }
  | _ => none }
def graceKnownRow : OpenClaim := { program := "ytodaknidbdicdaa", sum := "0e6a673b8494f3e6e84800aa8a90b40b48445a1ea17592e93d3701f2639644d3", func := "wainscot/wainscotlaw10.GraceKnown", spec := "graceKnown", apart := false }
def GraceKnownSaid : Prop := graceKnownRow.holds Try.pinned (OpenSpec.ofChange graceKnownSpec)

/-- ITS FALSE NEIGHBOUR: 'it returns false'. Refute it at one input. -/
def graceKnownWrong : ChangeSpec := { name := "graceKnown", fn := fun _ => fun
  | [] => { results := [.lit (.bool false)], args := [] }
  | _ => none }
def GraceKnownWrongFalsely : Prop := graceKnownRow.holds Try.pinned (OpenSpec.ofChange graceKnownWrong)

/- THE SECOND FORM. 'bulk': how many values and letters a reading holds, each counted each time it is reached (what is shared counts as often as it is met; a slice's spare places count too). A statement '..UptoSaid' is the law's where the arguments, and the package variables that the reading takes, are together of bulk at most 1048576: NARROWER than '..Said'. Prove '..Said' where nothing that the law and all that it calls make is longer than what came in: it says more and counts as full. Else prove '..UptoSaid'. A law counts once. -/
mutual
def uptoBulk {H : Type} : DataW H → Nat
  | .lit (.string bytes) => bytes.length + 1
  | .lit _ => 1
  | .nil => 1
  | .ptr d => uptoBulk d + 1
  | .slice elems spare => uptoBulkAll elems + uptoBulkAll spare + 1
  | .agg parts => uptoBulkAll parts + 1
  | .iface _ d => uptoBulk d + 1
  | .map entries => uptoBulkEntries entries + 1
  | .held _ => 1
def uptoBulkAll {H : Type} : List (DataW H) → Nat
  | [] => 0
  | d :: r => uptoBulk d + uptoBulkAll r
def uptoBulkEntries {H : Type} : List (Lit × DataW H) → Nat
  | [] => 0
  | x :: r => uptoBulkEntry x + uptoBulkEntries r
def uptoBulkEntry {H : Type} : Lit × DataW H → Nat
  | (.string bytes, d) => bytes.length + uptoBulk d + 1
  | (_, d) => uptoBulk d + 1
 end
def uptoSmall : (H : Type) → List (DataW H) → Bool := fun _ ds => decide (uptoBulkAll ds ≤ 1048576)
def OpenSpec.upto (s : _root_.Go.ChangeSpec) : _root_.Go.OpenSpec := { _root_.Go.OpenSpec.ofChange s with cond := some uptoSmall }

/-- 'wainscotlaw10.GraceWaits', WHERE WHAT IT READS IS OF BULK AT MOST 1048576: true; the input reads as it did. -/
def graceWaitsUptoRow : OpenClaim := { program := "ytodaknidbdicdaa", sum := "0e6a673b8494f3e6e84800aa8a90b40b48445a1ea17592e93d3701f2639644d3", func := "wainscot/wainscotlaw10.GraceWaits", spec := "graceWaits", apart := false, narrowed := true }
def GraceWaitsUptoSaid : Prop := graceWaitsUptoRow.holds Try.pinned (OpenSpec.upto graceWaitsSpec)

/-- 'wainscotlaw10.GracePlays', WHERE WHAT IT READS IS OF BULK AT MOST 1048576: true; the input reads as it did. -/
def gracePlaysUptoRow : OpenClaim := { program := "ytodaknidbdicdaa", sum := "0e6a673b8494f3e6e84800aa8a90b40b48445a1ea17592e93d3701f2639644d3", func := "wainscot/wainscotlaw10.GracePlays", spec := "gracePlays", apart := false, narrowed := true }
def GracePlaysUptoSaid : Prop := gracePlaysUptoRow.holds Try.pinned (OpenSpec.upto gracePlaysSpec)

/-- 'wainscotlaw10.GraceKnown', WHERE WHAT IT READS IS OF BULK AT MOST 1048576: true; the input reads as it did. -/
def graceKnownUptoRow : OpenClaim := { program := "ytodaknidbdicdaa", sum := "0e6a673b8494f3e6e84800aa8a90b40b48445a1ea17592e93d3701f2639644d3", func := "wainscot/wainscotlaw10.GraceKnown", spec := "graceKnown", apart := false, narrowed := true }
def GraceKnownUptoSaid : Prop := graceKnownUptoRow.holds Try.pinned (OpenSpec.upto graceKnownSpec)

end Rows
end Go.Proofs.Ytodaknidbdicdaa
