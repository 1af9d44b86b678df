/-
  No cell of these rows narrows 'for every input' (looked for: loops, veiled, ifaces, maps, wideKeys, modest, calm, conditions, laid).
  DERIVED. THE GIVEN ROWS OF THIS SEAT. 6 by the template 'for every input the law returns true; each argument reads behind the call as it read before'; 0 by the template 'total and deterministic' (their statements: YtgbfhhmmkhjhhaaTotals.lean).
  GIVEN WITH THE SEED: the statements are not yours to turn. If you find one false, say at which input.
  Laid BY PROGRAM, IN A SANDBOX (cutbox-rows.mjs): the forced cells as the released guide's own fill.sh prints them over the translation bcbdc4b2ffa8e545… (all of the seat's roots in one cut). By AI agents, Wed Nov 11 2026. No macro, syntax, notation, axiom, sorry.
-/
import Derived.Test.YtgbfhhmmkhjhhaaChecked
import GoSem.Claim
import GoSem.ClaimJoined
import GoSem.ClaimMapViews
import Derived.JoinedTies
import Derived.KernelRfl
namespace Go.Proofs.Ytgbfhhmmkhjhhaa
/- THE CELL 'sum', in the pinned program and in every row, IS THE sha256 OF THE DUMP (.gsa) THAT YtgbfhhmmkhjhhaaProg.lean LOADS. Nothing in Lean hashes anything: it is a label: what it is worth is what the hold of that sum in a sandbox is worth. -/
noncomputable def Try.pinned : Pinned := { name := "ytgbfhhmmkhjhhaa", sum := "bcbdc4b2ffa8e545c61d8e721474b9d8862cbf0981ab422d52bd024473defd97", checked := Try.checked }
namespace Rows
def none {H : Type} : Left H := { results := [], args := [] }

/-- 'cabstandlaw11.PathsEdges': WHATEVER THE INPUT: true; the input reads as it did. -/
def pathsEdgesSpec : ChangeSpec := { name := "pathsEdges", fn := fun _ => fun
  | [d1, d2] => { results := [.lit (.bool true)], args := [d1, d2] }
  | _ => none }
def pathsEdgesRow : OpenClaim := { program := "ytgbfhhmmkhjhhaa", sum := "bcbdc4b2ffa8e545c61d8e721474b9d8862cbf0981ab422d52bd024473defd97", func := "cabstand/cabstandlaw11.PathsEdges", spec := "pathsEdges", inPlace := ["slices.overlaps[cabstand/api.Road]"], unfollowed := true, recurses := true, plainKeys := false, apart := false }
def PathsEdgesSaid : Prop := pathsEdgesRow.holds Try.pinned (OpenSpec.ofChange pathsEdgesSpec)

/-- ITS FALSE NEIGHBOUR: 'it returns false'. Refute it at one input. -/
def pathsEdgesWrong : ChangeSpec := { name := "pathsEdges", fn := fun _ => fun
  | [d1, d2] => { results := [.lit (.bool false)], args := [d1, d2] }
  | _ => none }
def PathsEdgesWrongFalsely : Prop := pathsEdgesRow.holds Try.pinned (OpenSpec.ofChange pathsEdgesWrong)

/-- 'cabstandlaw11.PathsPieces': WHATEVER THE INPUT: true; the input reads as it did. -/
def pathsPiecesSpec : ChangeSpec := { name := "pathsPieces", fn := fun _ => fun
  | [d1, d2, d3, d4, d5] => { results := [.lit (.bool true)], args := [d1, d2, d3, d4, d5] }
  | _ => none }
def pathsPiecesRow : OpenClaim := { program := "ytgbfhhmmkhjhhaa", sum := "bcbdc4b2ffa8e545c61d8e721474b9d8862cbf0981ab422d52bd024473defd97", func := "cabstand/cabstandlaw11.PathsPieces", spec := "pathsPieces", inPlace := ["slices.overlaps[cabstand/api.Road]"], unfollowed := true, recurses := true, plainKeys := false, apart := false }
def PathsPiecesSaid : Prop := pathsPiecesRow.holds Try.pinned (OpenSpec.ofChange pathsPiecesSpec)

/-- ITS FALSE NEIGHBOUR: 'it returns false'. Refute it at one input. -/
def pathsPiecesWrong : ChangeSpec := { name := "pathsPieces", fn := fun _ => fun
  | [d1, d2, d3, d4, d5] => { results := [.lit (.bool false)], args := [d1, d2, d3, d4, d5] }
  | _ => none }
def PathsPiecesWrongFalsely : Prop := pathsPiecesRow.holds Try.pinned (OpenSpec.ofChange pathsPiecesWrong)

/-- 'cabstandlaw11.PathsLeast': WHATEVER THE INPUT: true; the input reads as it did. -/
def pathsLeastSpec : ChangeSpec := { name := "pathsLeast", fn := fun _ => fun
  | [d1, d2] => { results := [.lit (.bool true)], args := [d1, d2] }
  | _ => none }
def pathsLeastRow : OpenClaim := { program := "ytgbfhhmmkhjhhaa", sum := "bcbdc4b2ffa8e545c61d8e721474b9d8862cbf0981ab422d52bd024473defd97", func := "cabstand/cabstandlaw11.PathsLeast", spec := "pathsLeast", inPlace := ["slices.overlaps[cabstand/api.Road]"], unfollowed := true, recurses := true, plainKeys := false, apart := false }
def PathsLeastSaid : Prop := pathsLeastRow.holds Try.pinned (OpenSpec.ofChange pathsLeastSpec)

/-- ITS FALSE NEIGHBOUR: 'it returns false'. Refute it at one input. -/
def pathsLeastWrong : ChangeSpec := { name := "pathsLeast", fn := fun _ => fun
  | [d1, d2] => { results := [.lit (.bool false)], args := [d1, d2] }
  | _ => none }
def PathsLeastWrongFalsely : Prop := pathsLeastRow.holds Try.pinned (OpenSpec.ofChange pathsLeastWrong)

/-- 'cabstandlaw11.PathsMore': WHATEVER THE INPUT: true; the input reads as it did. -/
def pathsMoreSpec : ChangeSpec := { name := "pathsMore", fn := fun _ => fun
  | [d1, d2, d3] => { results := [.lit (.bool true)], args := [d1, d2, d3] }
  | _ => none }
def pathsMoreRow : OpenClaim := { program := "ytgbfhhmmkhjhhaa", sum := "bcbdc4b2ffa8e545c61d8e721474b9d8862cbf0981ab422d52bd024473defd97", func := "cabstand/cabstandlaw11.PathsMore", spec := "pathsMore", inPlace := ["slices.overlaps[cabstand/api.Road]"], unfollowed := true, recurses := true, plainKeys := false, apart := false }
def PathsMoreSaid : Prop := pathsMoreRow.holds Try.pinned (OpenSpec.ofChange pathsMoreSpec)

/-- ITS FALSE NEIGHBOUR: 'it returns false'. Refute it at one input. -/
def pathsMoreWrong : ChangeSpec := { name := "pathsMore", fn := fun _ => fun
  | [d1, d2, d3] => { results := [.lit (.bool false)], args := [d1, d2, d3] }
  | _ => none }
def PathsMoreWrongFalsely : Prop := pathsMoreRow.holds Try.pinned (OpenSpec.ofChange pathsMoreWrong)

/-- 'cabstandlaw11.PathsNames': WHATEVER THE INPUT: true; the input reads as it did. -/
def pathsNamesSpec : ChangeSpec := { name := "pathsNames", fn := fun _ => fun
  | [] => { results := [.lit (.bool true)], args := [] }
  | _ => none }
def pathsNamesRow : OpenClaim := { program := "ytgbfhhmmkhjhhaa", sum := "bcbdc4b2ffa8e545c61d8e721474b9d8862cbf0981ab422d52bd024473defd97", func := "cabstand/cabstandlaw11.PathsNames", spec := "pathsNames", inPlace := ["slices.overlaps[cabstand/api.Road]"], unfollowed := true, recurses := true, plainKeys := false, apart := false }
def PathsNamesSaid : Prop := pathsNamesRow.holds Try.pinned (OpenSpec.ofChange pathsNamesSpec)

/-- ITS FALSE NEIGHBOUR: 'it returns false'. Refute it at one input. -/
def pathsNamesWrong : ChangeSpec := { name := "pathsNames", fn := fun _ => fun
  | [] => { results := [.lit (.bool false)], args := [] }
  | _ => none }
def PathsNamesWrongFalsely : Prop := pathsNamesRow.holds Try.pinned (OpenSpec.ofChange pathsNamesWrong)

/-- 'cabstandlaw11.PathsGrid': WHATEVER THE INPUT: true; the input reads as it did. -/
def pathsGridSpec : ChangeSpec := { name := "pathsGrid", fn := fun _ => fun
  | [d1, d2, d3, d4, d5] => { results := [.lit (.bool true)], args := [d1, d2, d3, d4, d5] }
  | _ => none }
def pathsGridRow : OpenClaim := { program := "ytgbfhhmmkhjhhaa", sum := "bcbdc4b2ffa8e545c61d8e721474b9d8862cbf0981ab422d52bd024473defd97", func := "cabstand/cabstandlaw11.PathsGrid", spec := "pathsGrid", inPlace := ["slices.overlaps[cabstand/api.Road]"], unfollowed := true, recurses := true, plainKeys := false, apart := false }
def PathsGridSaid : Prop := pathsGridRow.holds Try.pinned (OpenSpec.ofChange pathsGridSpec)

/-- ITS FALSE NEIGHBOUR: 'it returns false'. Refute it at one input. -/
def pathsGridWrong : ChangeSpec := { name := "pathsGrid", fn := fun _ => fun
  | [d1, d2, d3, d4, d5] => { results := [.lit (.bool false)], args := [d1, d2, d3, d4, d5] }
  | _ => none }
def PathsGridWrongFalsely : Prop := pathsGridRow.holds Try.pinned (OpenSpec.ofChange pathsGridWrong)

/- THE SECOND FORM. 'bulk': how many values and letters a reading holds, each counted each time it is reached (what is shared counts as often as it is met; a slice's spare places count too). A statement '..UptoSaid' is the law's where the arguments, and the package variables that the reading takes, are together of bulk at most 1048576: NARROWER than '..Said'. Prove '..Said' where nothing that the law and all that it calls make is longer than what came in: it says more and counts as full. Else prove '..UptoSaid'. A law counts once. -/
mutual
def uptoBulk {H : Type} : DataW H → Nat
  | .lit (.string bytes) => bytes.length + 1
  | .lit _ => 1
  | .nil => 1
  | .ptr d => uptoBulk d + 1
  | .slice elems spare => uptoBulkAll elems + uptoBulkAll spare + 1
  | .agg parts => uptoBulkAll parts + 1
  | .iface _ d => uptoBulk d + 1
  | .map entries => uptoBulkEntries entries + 1
  | .held _ => 1
def uptoBulkAll {H : Type} : List (DataW H) → Nat
  | [] => 0
  | d :: r => uptoBulk d + uptoBulkAll r
def uptoBulkEntries {H : Type} : List (Lit × DataW H) → Nat
  | [] => 0
  | x :: r => uptoBulkEntry x + uptoBulkEntries r
def uptoBulkEntry {H : Type} : Lit × DataW H → Nat
  | (.string bytes, d) => bytes.length + uptoBulk d + 1
  | (_, d) => uptoBulk d + 1
 end
def uptoSmall : (H : Type) → List (DataW H) → Bool := fun _ ds => decide (uptoBulkAll ds ≤ 1048576)
def OpenSpec.upto (s : _root_.Go.ChangeSpec) : _root_.Go.OpenSpec := { _root_.Go.OpenSpec.ofChange s with cond := some uptoSmall }

/-- 'cabstandlaw11.PathsEdges', WHERE WHAT IT READS IS OF BULK AT MOST 1048576: true; the input reads as it did. -/
def pathsEdgesUptoRow : OpenClaim := { program := "ytgbfhhmmkhjhhaa", sum := "bcbdc4b2ffa8e545c61d8e721474b9d8862cbf0981ab422d52bd024473defd97", func := "cabstand/cabstandlaw11.PathsEdges", spec := "pathsEdges", inPlace := ["slices.overlaps[cabstand/api.Road]"], unfollowed := true, recurses := true, plainKeys := false, apart := false, narrowed := true }
def PathsEdgesUptoSaid : Prop := pathsEdgesUptoRow.holds Try.pinned (OpenSpec.upto pathsEdgesSpec)

/-- 'cabstandlaw11.PathsPieces', WHERE WHAT IT READS IS OF BULK AT MOST 1048576: true; the input reads as it did. -/
def pathsPiecesUptoRow : OpenClaim := { program := "ytgbfhhmmkhjhhaa", sum := "bcbdc4b2ffa8e545c61d8e721474b9d8862cbf0981ab422d52bd024473defd97", func := "cabstand/cabstandlaw11.PathsPieces", spec := "pathsPieces", inPlace := ["slices.overlaps[cabstand/api.Road]"], unfollowed := true, recurses := true, plainKeys := false, apart := false, narrowed := true }
def PathsPiecesUptoSaid : Prop := pathsPiecesUptoRow.holds Try.pinned (OpenSpec.upto pathsPiecesSpec)

/-- 'cabstandlaw11.PathsLeast', WHERE WHAT IT READS IS OF BULK AT MOST 1048576: true; the input reads as it did. -/
def pathsLeastUptoRow : OpenClaim := { program := "ytgbfhhmmkhjhhaa", sum := "bcbdc4b2ffa8e545c61d8e721474b9d8862cbf0981ab422d52bd024473defd97", func := "cabstand/cabstandlaw11.PathsLeast", spec := "pathsLeast", inPlace := ["slices.overlaps[cabstand/api.Road]"], unfollowed := true, recurses := true, plainKeys := false, apart := false, narrowed := true }
def PathsLeastUptoSaid : Prop := pathsLeastUptoRow.holds Try.pinned (OpenSpec.upto pathsLeastSpec)

/-- 'cabstandlaw11.PathsMore', WHERE WHAT IT READS IS OF BULK AT MOST 1048576: true; the input reads as it did. -/
def pathsMoreUptoRow : OpenClaim := { program := "ytgbfhhmmkhjhhaa", sum := "bcbdc4b2ffa8e545c61d8e721474b9d8862cbf0981ab422d52bd024473defd97", func := "cabstand/cabstandlaw11.PathsMore", spec := "pathsMore", inPlace := ["slices.overlaps[cabstand/api.Road]"], unfollowed := true, recurses := true, plainKeys := false, apart := false, narrowed := true }
def PathsMoreUptoSaid : Prop := pathsMoreUptoRow.holds Try.pinned (OpenSpec.upto pathsMoreSpec)

/-- 'cabstandlaw11.PathsNames', WHERE WHAT IT READS IS OF BULK AT MOST 1048576: true; the input reads as it did. -/
def pathsNamesUptoRow : OpenClaim := { program := "ytgbfhhmmkhjhhaa", sum := "bcbdc4b2ffa8e545c61d8e721474b9d8862cbf0981ab422d52bd024473defd97", func := "cabstand/cabstandlaw11.PathsNames", spec := "pathsNames", inPlace := ["slices.overlaps[cabstand/api.Road]"], unfollowed := true, recurses := true, plainKeys := false, apart := false, narrowed := true }
def PathsNamesUptoSaid : Prop := pathsNamesUptoRow.holds Try.pinned (OpenSpec.upto pathsNamesSpec)

/-- 'cabstandlaw11.PathsGrid', WHERE WHAT IT READS IS OF BULK AT MOST 1048576: true; the input reads as it did. -/
def pathsGridUptoRow : OpenClaim := { program := "ytgbfhhmmkhjhhaa", sum := "bcbdc4b2ffa8e545c61d8e721474b9d8862cbf0981ab422d52bd024473defd97", func := "cabstand/cabstandlaw11.PathsGrid", spec := "pathsGrid", inPlace := ["slices.overlaps[cabstand/api.Road]"], unfollowed := true, recurses := true, plainKeys := false, apart := false, narrowed := true }
def PathsGridUptoSaid : Prop := pathsGridUptoRow.holds Try.pinned (OpenSpec.upto pathsGridSpec)

end Rows
end Go.Proofs.Ytgbfhhmmkhjhhaa
