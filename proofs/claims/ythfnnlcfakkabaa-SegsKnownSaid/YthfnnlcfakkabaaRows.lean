/-
  No cell of these rows narrows 'for every input' (looked for: loops, veiled, ifaces, maps, wideKeys, modest, calm, conditions, laid).
  DERIVED. THE GIVEN ROWS OF THIS SEAT. 6 by the template 'for every input the law returns true; each argument reads behind the call as it read before'; 0 by the template 'total and deterministic' (their statements: YthfnnlcfakkabaaTotals.lean).
  GIVEN WITH THE SEED: the statements are not yours to turn. If you find one false, say at which input.
  Laid BY PROGRAM, IN A SANDBOX (cutbox-rows.mjs): the forced cells as the released guide's own fill.sh prints them over the translation f48b5f35417cc20b… (all of the seat's roots in one cut). By AI agents, Wed Nov 11 2026. No macro, syntax, notation, axiom, sorry.
-/
import Derived.Test.YthfnnlcfakkabaaChecked
import GoSem.Claim
import GoSem.ClaimJoined
import GoSem.ClaimMapViews
import Derived.JoinedTies
import Derived.KernelRfl
namespace Go.Proofs.Ythfnnlcfakkabaa
/- THE CELL 'sum', in the pinned program and in every row, IS THE sha256 OF THE DUMP (.gsa) THAT YthfnnlcfakkabaaProg.lean LOADS. Nothing in Lean hashes anything: it is a label: what it is worth is what the hold of that sum in a sandbox is worth. -/
noncomputable def Try.pinned : Pinned := { name := "ythfnnlcfakkabaa", sum := "f48b5f35417cc20b10e638e8f522d3cbfb02ab3bd7a94d856c919c5bc13158c5", checked := Try.checked }
namespace Rows
def none {H : Type} : Left H := { results := [], args := [] }

/-- 'wainscotlaw09.SegsRows': WHATEVER THE INPUT: true; the input reads as it did. -/
def segsRowsSpec : ChangeSpec := { name := "segsRows", fn := fun _ => fun
  | [d1, d2] => { results := [.lit (.bool true)], args := [d1, d2] }
  | _ => none }
def segsRowsRow : OpenClaim := { program := "ythfnnlcfakkabaa", sum := "f48b5f35417cc20b10e638e8f522d3cbfb02ab3bd7a94d856c919c5bc13158c5", func := "wainscot/wainscotlaw09.SegsRows", spec := "segsRows", apart := false }
def SegsRowsSaid : Prop := segsRowsRow.holds Try.pinned (OpenSpec.ofChange segsRowsSpec)

/-- ITS FALSE NEIGHBOUR: 'it returns false'. Refute it at one input. -/
def segsRowsWrong : ChangeSpec := { name := "segsRows", fn := fun _ => fun
  | [d1, d2] => { results := [.lit (.bool false)], args := [d1, d2] }
  | _ => none }
def SegsRowsWrongFalsely : Prop := segsRowsRow.holds Try.pinned (OpenSpec.ofChange segsRowsWrong)

/-- 'wainscotlaw09.SegsReady': WHATEVER THE INPUT: true; the input reads as it did. -/
def segsReadySpec : ChangeSpec := { name := "segsReady", fn := fun _ => fun
  | [d1, d2] => { results := [.lit (.bool true)], args := [d1, d2] }
  | _ => none }
def segsReadyRow : OpenClaim := { program := "ythfnnlcfakkabaa", sum := "f48b5f35417cc20b10e638e8f522d3cbfb02ab3bd7a94d856c919c5bc13158c5", func := "wainscot/wainscotlaw09.SegsReady", spec := "segsReady", apart := false }
def SegsReadySaid : Prop := segsReadyRow.holds Try.pinned (OpenSpec.ofChange segsReadySpec)

/-- ITS FALSE NEIGHBOUR: 'it returns false'. Refute it at one input. -/
def segsReadyWrong : ChangeSpec := { name := "segsReady", fn := fun _ => fun
  | [d1, d2] => { results := [.lit (.bool false)], args := [d1, d2] }
  | _ => none }
def SegsReadyWrongFalsely : Prop := segsReadyRow.holds Try.pinned (OpenSpec.ofChange segsReadyWrong)

/-- 'wainscotlaw09.SegsCut': WHATEVER THE INPUT: true; the input reads as it did. -/
def segsCutSpec : ChangeSpec := { name := "segsCut", fn := fun _ => fun
  | [d1, d2] => { results := [.lit (.bool true)], args := [d1, d2] }
  | _ => none }
def segsCutRow : OpenClaim := { program := "ythfnnlcfakkabaa", sum := "f48b5f35417cc20b10e638e8f522d3cbfb02ab3bd7a94d856c919c5bc13158c5", func := "wainscot/wainscotlaw09.SegsCut", spec := "segsCut", apart := false }
def SegsCutSaid : Prop := segsCutRow.holds Try.pinned (OpenSpec.ofChange segsCutSpec)

/-- ITS FALSE NEIGHBOUR: 'it returns false'. Refute it at one input. -/
def segsCutWrong : ChangeSpec := { name := "segsCut", fn := fun _ => fun
  | [d1, d2] => { results := [.lit (.bool false)], args := [d1, d2] }
  | _ => none }
def SegsCutWrongFalsely : Prop := segsCutRow.holds Try.pinned (OpenSpec.ofChange segsCutWrong)

/-- 'wainscotlaw09.SegsTwice': WHATEVER THE INPUT: true; the input reads as it did. -/
def segsTwiceSpec : ChangeSpec := { name := "segsTwice", fn := fun _ => fun
  | [d1, d2, d3] => { results := [.lit (.bool true)], args := [d1, d2, d3] }
  | _ => none }
def segsTwiceRow : OpenClaim := { program := "ythfnnlcfakkabaa", sum := "f48b5f35417cc20b10e638e8f522d3cbfb02ab3bd7a94d856c919c5bc13158c5", func := "wainscot/wainscotlaw09.SegsTwice", spec := "segsTwice", apart := false }
def SegsTwiceSaid : Prop := segsTwiceRow.holds Try.pinned (OpenSpec.ofChange segsTwiceSpec)

/-- ITS FALSE NEIGHBOUR: 'it returns false'. Refute it at one input. -/
def segsTwiceWrong : ChangeSpec := { name := "segsTwice", fn := fun _ => fun
  | [d1, d2, d3] => { results := [.lit (.bool false)], args := [d1, d2, d3] }
  | _ => none }
def SegsTwiceWrongFalsely : Prop := segsTwiceRow.holds Try.pinned (OpenSpec.ofChange segsTwiceWrong)

/-- 'wainscotlaw09.SegsAdds': WHATEVER THE INPUT: true; the input reads as it did. -/
def segsAddsSpec : ChangeSpec := { name := "segsAdds", fn := fun _ => fun
  | [d] => { results := [.lit (.bool true)], args := [d] }
  | _ => none }
def segsAddsRow : OpenClaim := { program := "ythfnnlcfakkabaa", sum := "f48b5f35417cc20b10e638e8f522d3cbfb02ab3bd7a94d856c919c5bc13158c5", func := "wainscot/wainscotlaw09.SegsAdds", spec := "segsAdds", apart := false }
def SegsAddsSaid : Prop := segsAddsRow.holds Try.pinned (OpenSpec.ofChange segsAddsSpec)

/-- ITS FALSE NEIGHBOUR: 'it returns false'. Refute it at one input. -/
def segsAddsWrong : ChangeSpec := { name := "segsAdds", fn := fun _ => fun
  | [d] => { results := [.lit (.bool false)], args := [d] }
  | _ => none }
def SegsAddsWrongFalsely : Prop := segsAddsRow.holds Try.pinned (OpenSpec.ofChange segsAddsWrong)

/-- 'wainscotlaw09.SegsKnown': WHATEVER THE INPUT: true; the input reads as it did. -/
def segsKnownSpec : ChangeSpec := { name := "segsKnown", fn := fun _ => fun
  | [] => { results := [.lit (.bool true)], args := [] }
  | _ => none }
def segsKnownRow : OpenClaim := { program := "ythfnnlcfakkabaa", sum := "f48b5f35417cc20b10e638e8f522d3cbfb02ab3bd7a94d856c919c5bc13158c5", func := "wainscot/wainscotlaw09.SegsKnown", spec := "segsKnown", apart := false }
def SegsKnownSaid : Prop := segsKnownRow.holds Try.pinned (OpenSpec.ofChange segsKnownSpec)

/-- ITS FALSE NEIGHBOUR: 'it returns false'. Refute it at one input. -/
def segsKnownWrong : ChangeSpec := { name := "segsKnown", fn := fun _ => fun
  | [] => { results := [.lit (.bool false)], args := [] }
  | _ => none }
def SegsKnownWrongFalsely : Prop := segsKnownRow.holds Try.pinned (OpenSpec.ofChange segsKnownWrong)

/- THE SECOND FORM. 'bulk': how many values and letters a reading holds, each counted each time it is reached (what is shared counts as often as it is met; a slice's spare places count too). A statement '..UptoSaid' is the law's where the arguments, and the package variables that the reading takes, are together of bulk at most 1048576: NARROWER than '..Said'. Prove '..Said' where nothing that the law and all that it calls make is longer than what came in: it says more and counts as full. Else prove '..UptoSaid'. A law counts once. -/
mutual
def uptoBulk {H : Type} : DataW H → Nat
  | .lit (.string bytes) => bytes.length + 1
  | .lit _ => 1
  | .nil => 1
  | .ptr d => uptoBulk d + 1
  | .slice elems spare => uptoBulkAll elems + uptoBulkAll spare + 1
  | .agg parts => uptoBulkAll parts + 1
  | .iface _ d => uptoBulk d + 1
  | .map entries => uptoBulkEntries entries + 1
  | .held _ => 1
def uptoBulkAll {H : Type} : List (DataW H) → Nat
  | [] => 0
  | d :: r => uptoBulk d + uptoBulkAll r
def uptoBulkEntries {H : Type} : List (Lit × DataW H) → Nat
  | [] => 0
  | x :: r => uptoBulkEntry x + uptoBulkEntries r
def uptoBulkEntry {H : Type} : Lit × DataW H → Nat
  | (.string bytes, d) => bytes.length + uptoBulk d + 1
  | (_, d) => uptoBulk d + 1
 end
def uptoSmall : (H : Type) → List (DataW H) → Bool := fun _ ds => decide (uptoBulkAll ds ≤ 1048576)
def OpenSpec.upto (s : _root_.Go.ChangeSpec) : _root_.Go.OpenSpec := { _root_.Go.OpenSpec.ofChange s with cond := some uptoSmall }

/-- 'wainscotlaw09.SegsRows', WHERE WHAT IT READS IS OF BULK AT MOST 1048576: true; the input reads as it did. -/
def segsRowsUptoRow : OpenClaim := { program := "ythfnnlcfakkabaa", sum := "f48b5f35417cc20b10e638e8f522d3cbfb02ab3bd7a94d856c919c5bc13158c5", func := "wainscot/wainscotlaw09.SegsRows", spec := "segsRows", apart := false, narrowed := true }
def SegsRowsUptoSaid : Prop := segsRowsUptoRow.holds Try.pinned (OpenSpec.upto segsRowsSpec)

/-- 'wainscotlaw09.SegsReady', WHERE WHAT IT READS IS OF BULK AT MOST 1048576: true; the input reads as it did. -/
def segsReadyUptoRow : OpenClaim := { program := "ythfnnlcfakkabaa", sum := "f48b5f35417cc20b10e638e8f522d3cbfb02ab3bd7a94d856c919c5bc13158c5", func := "wainscot/wainscotlaw09.SegsReady", spec := "segsReady", apart := false, narrowed := true }
def SegsReadyUptoSaid : Prop := segsReadyUptoRow.holds Try.pinned (OpenSpec.upto segsReadySpec)

/-- 'wainscotlaw09.SegsCut', WHERE WHAT IT READS IS OF BULK AT MOST 1048576: true; the input reads as it did. -/
def segsCutUptoRow : OpenClaim := { program := "ythfnnlcfakkabaa", sum := "f48b5f35417cc20b10e638e8f522d3cbfb02ab3bd7a94d856c919c5bc13158c5", func := "wainscot/wainscotlaw09.SegsCut", spec := "segsCut", apart := false, narrowed := true }
def SegsCutUptoSaid : Prop := segsCutUptoRow.holds Try.pinned (OpenSpec.upto segsCutSpec)

/-- 'wainscotlaw09.SegsTwice', WHERE WHAT IT READS IS OF BULK AT MOST 1048576: true; the input reads as it did. -/
def segsTwiceUptoRow : OpenClaim := { program := "ythfnnlcfakkabaa", sum := "f48b5f35417cc20b10e638e8f522d3cbfb02ab3bd7a94d856c919c5bc13158c5", func := "wainscot/wainscotlaw09.SegsTwice", spec := "segsTwice", apart := false, narrowed := true }
def SegsTwiceUptoSaid : Prop := segsTwiceUptoRow.holds Try.pinned (OpenSpec.upto segsTwiceSpec)

/-- 'wainscotlaw09.SegsAdds', WHERE WHAT IT READS IS OF BULK AT MOST 1048576: true; the input reads as it did. -/
def segsAddsUptoRow : OpenClaim := { program := "ythfnnlcfakkabaa", sum := "f48b5f35417cc20b10e638e8f522d3cbfb02ab3bd7a94d856c919c5bc13158c5", func := "wainscot/wainscotlaw09.SegsAdds", spec := "segsAdds", apart := false, narrowed := true }
def SegsAddsUptoSaid : Prop := segsAddsUptoRow.holds Try.pinned (OpenSpec.upto segsAddsSpec)

/-- 'wainscotlaw09.SegsKnown', WHERE WHAT IT READS IS OF BULK AT MOST 1048576: true; the input reads as it did. -/
def segsKnownUptoRow : OpenClaim := { program := "ythfnnlcfakkabaa", sum := "f48b5f35417cc20b10e638e8f522d3cbfb02ab3bd7a94d856c919c5bc13158c5", func := "wainscot/wainscotlaw09.SegsKnown", spec := "segsKnown", apart := false, narrowed := true }
def SegsKnownUptoSaid : Prop := segsKnownUptoRow.holds Try.pinned (OpenSpec.upto segsKnownSpec)

end Rows
end Go.Proofs.Ythfnnlcfakkabaa
