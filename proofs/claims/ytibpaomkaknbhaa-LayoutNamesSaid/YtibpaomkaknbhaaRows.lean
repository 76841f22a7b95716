/-
  No cell of these rows narrows 'for every input' (looked for: loops, veiled, ifaces, maps, wideKeys, modest, calm, conditions, laid).
  DERIVED. THE GIVEN ROWS OF THIS SEAT. 5 by the template 'for every input the law returns true; each argument reads behind the call as it read before'; 0 by the template 'total and deterministic' (their statements: YtibpaomkaknbhaaTotals.lean).
  GIVEN WITH THE SEED: the statements are not yours to turn. If you find one false, say at which input.
  Laid BY PROGRAM, IN A SANDBOX (cutbox-rows.mjs): the forced cells as the released guide's own fill.sh prints them over the translation 13730a51eb38b161… (all of the seat's roots in one cut). By AI agents, Wed Nov 11 2026. No macro, syntax, notation, axiom, sorry.
-/
import Derived.Test.YtibpaomkaknbhaaChecked
import GoSem.Claim
import GoSem.ClaimJoined
import GoSem.ClaimMapViews
import Derived.JoinedTies
import Derived.KernelRfl
namespace Go.Proofs.Ytibpaomkaknbhaa
/- THE CELL 'sum', in the pinned program and in every row, IS THE sha256 OF THE DUMP (.gsa) THAT YtibpaomkaknbhaaProg.lean LOADS. Nothing in Lean hashes anything: it is a label: what it is worth is what the hold of that sum in a sandbox is worth. -/
noncomputable def Try.pinned : Pinned := { name := "ytibpaomkaknbhaa", sum := "13730a51eb38b161d458aa4d414e244675123bb25b9627914009b80bc05e27ec", checked := Try.checked }
namespace Rows
def none {H : Type} : Left H := { results := [], args := [] }

/-- 'wainscotlaw15.LayoutOf': WHATEVER THE INPUT: true; the input reads as it did. -/
def layoutOfSpec : ChangeSpec := { name := "layoutOf", fn := fun _ => fun
  | [d1, d2, d3] => { results := [.lit (.bool true)], args := [d1, d2, d3] }
  | _ => none }
def layoutOfRow : OpenClaim := { program := "ytibpaomkaknbhaa", sum := "13730a51eb38b161d458aa4d414e244675123bb25b9627914009b80bc05e27ec", func := "wainscot/wainscotlaw15.LayoutOf", spec := "layoutOf", apart := false }
def LayoutOfSaid : Prop := layoutOfRow.holds Try.pinned (OpenSpec.ofChange layoutOfSpec)

/-- ITS FALSE NEIGHBOUR: 'it returns false'. Refute it at one input. -/
def layoutOfWrong : ChangeSpec := { name := "layoutOf", fn := fun _ => fun
  | [d1, d2, d3] => { results := [.lit (.bool false)], args := [d1, d2, d3] }
  | _ => none }
def LayoutOfWrongFalsely : Prop := layoutOfRow.holds Try.pinned (OpenSpec.ofChange layoutOfWrong)

/-- 'wainscotlaw15.LayoutApart': WHATEVER THE INPUT: true; the input reads as it did. -/
def layoutApartSpec : ChangeSpec := { name := "layoutApart", fn := fun _ => fun
  | [d1, d2, d3] => { results := [.lit (.bool true)], args := [d1, d2, d3] }
  | _ => none }
def layoutApartRow : OpenClaim := { program := "ytibpaomkaknbhaa", sum := "13730a51eb38b161d458aa4d414e244675123bb25b9627914009b80bc05e27ec", func := "wainscot/wainscotlaw15.LayoutApart", spec := "layoutApart", apart := false }
def LayoutApartSaid : Prop := layoutApartRow.holds Try.pinned (OpenSpec.ofChange layoutApartSpec)

/-- ITS FALSE NEIGHBOUR: 'it returns false'. Refute it at one input. -/
def layoutApartWrong : ChangeSpec := { name := "layoutApart", fn := fun _ => fun
  | [d1, d2, d3] => { results := [.lit (.bool false)], args := [d1, d2, d3] }
  | _ => none }
def LayoutApartWrongFalsely : Prop := layoutApartRow.holds Try.pinned (OpenSpec.ofChange layoutApartWrong)

/-- 'wainscotlaw15.LayoutAt': WHATEVER THE INPUT: true; the input reads as it did. -/
def layoutAtSpec : ChangeSpec := { name := "layoutAt", fn := fun _ => fun
  | [d1, d2, d3] => { results := [.lit (.bool true)], args := [d1, d2, d3] }
  | _ => none }
def layoutAtRow : OpenClaim := { program := "ytibpaomkaknbhaa", sum := "13730a51eb38b161d458aa4d414e244675123bb25b9627914009b80bc05e27ec", func := "wainscot/wainscotlaw15.LayoutAt", spec := "layoutAt", apart := false }
def LayoutAtSaid : Prop := layoutAtRow.holds Try.pinned (OpenSpec.ofChange layoutAtSpec)

/-- ITS FALSE NEIGHBOUR: 'it returns false'. Refute it at one input. -/
def layoutAtWrong : ChangeSpec := { name := "layoutAt", fn := fun _ => fun
  | [d1, d2, d3] => { results := [.lit (.bool false)], args := [d1, d2, d3] }
  | _ => none }
def LayoutAtWrongFalsely : Prop := layoutAtRow.holds Try.pinned (OpenSpec.ofChange layoutAtWrong)

/-- 'wainscotlaw15.LayoutFinds': WHATEVER THE INPUT: true; the input reads as it did. -/
def layoutFindsSpec : ChangeSpec := { name := "layoutFinds", fn := fun _ => fun
  | [d1, d2, d3] => { results := [.lit (.bool true)], args := [d1, d2, d3] }
  | _ => none }
def layoutFindsRow : OpenClaim := { program := "ytibpaomkaknbhaa", sum := "13730a51eb38b161d458aa4d414e244675123bb25b9627914009b80bc05e27ec", func := "wainscot/wainscotlaw15.LayoutFinds", spec := "layoutFinds", apart := false }
def LayoutFindsSaid : Prop := layoutFindsRow.holds Try.pinned (OpenSpec.ofChange layoutFindsSpec)

/-- ITS FALSE NEIGHBOUR: 'it returns false'. Refute it at one input. -/
def layoutFindsWrong : ChangeSpec := { name := "layoutFinds", fn := fun _ => fun
  | [d1, d2, d3] => { results := [.lit (.bool false)], args := [d1, d2, d3] }
  | _ => none }
def LayoutFindsWrongFalsely : Prop := layoutFindsRow.holds Try.pinned (OpenSpec.ofChange layoutFindsWrong)

/-- 'wainscotlaw15.LayoutNames': WHATEVER THE INPUT: true; the input reads as it did. -/
def layoutNamesSpec : ChangeSpec := { name := "layoutNames", fn := fun _ => fun
  | [] => { results := [.lit (.bool true)], args := [] }
  | _ => none }
def layoutNamesRow : OpenClaim := { program := "ytibpaomkaknbhaa", sum := "13730a51eb38b161d458aa4d414e244675123bb25b9627914009b80bc05e27ec", func := "wainscot/wainscotlaw15.LayoutNames", spec := "layoutNames", apart := false }
def LayoutNamesSaid : Prop := layoutNamesRow.holds Try.pinned (OpenSpec.ofChange layoutNamesSpec)

/-- ITS FALSE NEIGHBOUR: 'it returns false'. Refute it at one input. -/
def layoutNamesWrong : ChangeSpec := { name := "layoutNames", fn := fun _ => fun
  | [] => { results := [.lit (.bool false)], args := [] }
  | _ => none }
def LayoutNamesWrongFalsely : Prop := layoutNamesRow.holds Try.pinned (OpenSpec.ofChange layoutNamesWrong)

/- THE SECOND FORM. 'bulk': how many values and letters a reading holds, each counted each time it is reached (what is shared counts as often as it is met; a slice's spare places count too). A statement '..UptoSaid' is the law's where the arguments, and the package variables that the reading takes, are together of bulk at most 1048576: NARROWER than '..Said'. Prove '..Said' where nothing that the law and all that it calls make is longer than what came in: it says more and counts as full. Else prove '..UptoSaid'. A law counts once. -/
mutual
def uptoBulk {H : Type} : DataW H → Nat
  | .lit (.string bytes) => bytes.length + 1
  | .lit _ => 1
  | .nil => 1
  | .ptr d => uptoBulk d + 1
  | .slice elems spare => uptoBulkAll elems + uptoBulkAll spare + 1
  | .agg parts => uptoBulkAll parts + 1
  | .iface _ d => uptoBulk d + 1
  | .map entries => uptoBulkEntries entries + 1
  | .held _ => 1
def uptoBulkAll {H : Type} : List (DataW H) → Nat
  | [] => 0
  | d :: r => uptoBulk d + uptoBulkAll r
def uptoBulkEntries {H : Type} : List (Lit × DataW H) → Nat
  | [] => 0
  | x :: r => uptoBulkEntry x + uptoBulkEntries r
def uptoBulkEntry {H : Type} : Lit × DataW H → Nat
  | (.string bytes, d) => bytes.length + uptoBulk d + 1
  | (_, d) => uptoBulk d + 1
 end
def uptoSmall : (H : Type) → List (DataW H) → Bool := fun _ ds => decide (uptoBulkAll ds ≤ 1048576)
def OpenSpec.upto (s : _root_.Go.ChangeSpec) : _root_.Go.OpenSpec := { _root_.Go.OpenSpec.ofChange s with cond := some uptoSmall }

/-- 'wainscotlaw15.LayoutOf', WHERE WHAT IT READS IS OF BULK AT MOST 1048576: true; the input reads as it did. -/
def layoutOfUptoRow : OpenClaim := { program := "ytibpaomkaknbhaa", sum := "13730a51eb38b161d458aa4d414e244675123bb25b9627914009b80bc05e27ec", func := "wainscot/wainscotlaw15.LayoutOf", spec := "layoutOf", apart := false, narrowed := true }
def LayoutOfUptoSaid : Prop := layoutOfUptoRow.holds Try.pinned (OpenSpec.upto layoutOfSpec)

/-- 'wainscotlaw15.LayoutApart', WHERE WHAT IT READS IS OF BULK AT MOST 1048576: true; the input reads as it did. -/
def layoutApartUptoRow : OpenClaim := { program := "ytibpaomkaknbhaa", sum := "13730a51eb38b161d458aa4d414e244675123bb25b9627914009b80bc05e27ec", func := "wainscot/wainscotlaw15.LayoutApart", spec := "layoutApart", apart := false, narrowed := true }
def LayoutApartUptoSaid : Prop := layoutApartUptoRow.holds Try.pinned (OpenSpec.upto layoutApartSpec)

/-- 'wainscotlaw15.LayoutAt', WHERE WHAT IT READS IS OF BULK AT MOST 1048576: true; the input reads as it did. -/
def layoutAtUptoRow : OpenClaim := { program := "ytibpaomkaknbhaa", sum := "13730a51eb38b161d458aa4d414e244675123bb25b9627914009b80bc05e27ec", func := "wainscot/wainscotlaw15.LayoutAt", spec := "layoutAt", apart := false, narrowed := true }
def LayoutAtUptoSaid : Prop := layoutAtUptoRow.holds Try.pinned (OpenSpec.upto layoutAtSpec)

/-- 'wainscotlaw15.LayoutFinds', WHERE WHAT IT READS IS OF BULK AT MOST 1048576: true; the input reads as it did. -/
def layoutFindsUptoRow : OpenClaim := { program := "ytibpaomkaknbhaa", sum := "13730a51eb38b161d458aa4d414e244675123bb25b9627914009b80bc05e27ec", func := "wainscot/wainscotlaw15.LayoutFinds", spec := "layoutFinds", apart := false, narrowed := true }
def LayoutFindsUptoSaid : Prop := layoutFindsUptoRow.holds Try.pinned (OpenSpec.upto layoutFindsSpec)

/-- 'wainscotlaw15.LayoutNames', WHERE WHAT IT READS IS OF BULK AT MOST 1048576: true; the input reads as it did. -/
def layoutNamesUptoRow : OpenClaim := { program := "ytibpaomkaknbhaa", sum := "13730a51eb38b161d458aa4d414e244675123bb25b9627914009b80bc05e27ec", func := "wainscot/wainscotlaw15.LayoutNames", spec := "layoutNames", apart := false, narrowed := true }
def LayoutNamesUptoSaid : Prop := layoutNamesUptoRow.holds Try.pinned (OpenSpec.upto layoutNamesSpec)

end Rows
end Go.Proofs.Ytibpaomkaknbhaa
