/-
  No cell of these rows narrows 'for every input' (looked for: loops, veiled, ifaces, maps, wideKeys, modest, calm, conditions, laid).
  DERIVED. THE GIVEN ROWS OF THIS SEAT. 10 by the template 'for every input the law returns true; each argument reads behind the call as it read before'; 0 by the template 'total and deterministic' (their statements: YtjijmikpoenbcaaTotals.lean).
  GIVEN WITH THE SEED: the statements are not yours to turn. If you find one false, say at which input.
  Laid BY PROGRAM, IN A SANDBOX (cutbox-rows.mjs): the forced cells as the released guide's own fill.sh prints them over the translation 0b4acdfe7f377e05… (all of the seat's roots in one cut). By AI agents, Wed Nov 11 2026. No macro, syntax, notation, axiom, sorry.
-/
import Derived.Test.YtjijmikpoenbcaaChecked
import GoSem.Claim
import GoSem.ClaimJoined
import GoSem.ClaimMapViews
import Derived.JoinedTies
import Derived.KernelRfl
namespace Go.Proofs.Ytjijmikpoenbcaa
/- THE CELL 'sum', in the pinned program and in every row, IS THE sha256 OF THE DUMP (.gsa) THAT YtjijmikpoenbcaaProg.lean LOADS. Nothing in Lean hashes anything: it is a label: what it is worth is what the hold of that sum in a sandbox is worth. -/
noncomputable def Try.pinned : Pinned := { name := "ytjijmikpoenbcaa", sum := "0b4acdfe7f377e058b08d6c48d01425cdd51b75f86e0830f9a9107ccd0ece03d", checked := Try.checked }
namespace Rows
def none {H : Type} : Left H := { results := [], args := [] }

/-- 'cabstandlaw02.CodecSums': WHATEVER THE INPUT: true; the input reads as it did. -/
def codecSumsSpec : ChangeSpec := { name := "codecSums", fn := fun _ => fun
  | [d] => { results := [.lit (.bool true)], args := [d] }
  | _ => none }
def codecSumsRow : OpenClaim := { program := "ytjijmikpoenbcaa", sum := "0b4acdfe7f377e058b08d6c48d01425cdd51b75f86e0830f9a9107ccd0ece03d", func := "cabstand/cabstandlaw02.CodecSums", spec := "codecSums", unfollowed := true, recurses := true, apart := false }
def CodecSumsSaid : Prop := codecSumsRow.holds Try.pinned (OpenSpec.ofChange codecSumsSpec)

/-- ITS FALSE NEIGHBOUR: 'it returns false'. Refute it at one input. -/
def codecSumsWrong : ChangeSpec := { name := "codecSums", fn := fun _ => fun
  | [d] => { results := [.lit (.bool false)], args := [d] }
  | _ => none }
def CodecSumsWrongFalsely : Prop := codecSumsRow.holds Try.pinned (OpenSpec.ofChange codecSumsWrong)

/-- 'cabstandlaw02.CodecXors': WHATEVER THE INPUT: true; the input reads as it did. -/
def codecXorsSpec : ChangeSpec := { name := "codecXors", fn := fun _ => fun
  | [d1, d2, d3] => { results := [.lit (.bool true)], args := [d1, d2, d3] }
  | _ => none }
def codecXorsRow : OpenClaim := { program := "ytjijmikpoenbcaa", sum := "0b4acdfe7f377e058b08d6c48d01425cdd51b75f86e0830f9a9107ccd0ece03d", func := "cabstand/cabstandlaw02.CodecXors", spec := "codecXors", unfollowed := true, recurses := true, apart := false }
def CodecXorsSaid : Prop := codecXorsRow.holds Try.pinned (OpenSpec.ofChange codecXorsSpec)

/-- ITS FALSE NEIGHBOUR: 'it returns false'. Refute it at one input. -/
def codecXorsWrong : ChangeSpec := { name := "codecXors", fn := fun _ => fun
  | [d1, d2, d3] => { results := [.lit (.bool false)], args := [d1, d2, d3] }
  | _ => none }
def CodecXorsWrongFalsely : Prop := codecXorsRow.holds Try.pinned (OpenSpec.ofChange codecXorsWrong)

/-- 'cabstandlaw02.CodecTurned': WHATEVER THE INPUT: true; the input reads as it did. -/
def codecTurnedSpec : ChangeSpec := { name := "codecTurned", fn := fun _ => fun
  | [d1, d2, d3] => { results := [.lit (.bool true)], args := [d1, d2, d3] }
  | _ => none }
def codecTurnedRow : OpenClaim := { program := "ytjijmikpoenbcaa", sum := "0b4acdfe7f377e058b08d6c48d01425cdd51b75f86e0830f9a9107ccd0ece03d", func := "cabstand/cabstandlaw02.CodecTurned", spec := "codecTurned", unfollowed := true, recurses := true, apart := false }
def CodecTurnedSaid : Prop := codecTurnedRow.holds Try.pinned (OpenSpec.ofChange codecTurnedSpec)

/-- ITS FALSE NEIGHBOUR: 'it returns false'. Refute it at one input. -/
def codecTurnedWrong : ChangeSpec := { name := "codecTurned", fn := fun _ => fun
  | [d1, d2, d3] => { results := [.lit (.bool false)], args := [d1, d2, d3] }
  | _ => none }
def CodecTurnedWrongFalsely : Prop := codecTurnedRow.holds Try.pinned (OpenSpec.ofChange codecTurnedWrong)

/-- 'cabstandlaw02.CodecWrites': WHATEVER THE INPUT: true; the input reads as it did. -/
def codecWritesSpec : ChangeSpec := { name := "codecWrites", fn := fun _ => fun
  | [d] => { results := [.lit (.bool true)], args := [d] }
  | _ => none }
def codecWritesRow : OpenClaim := { program := "ytjijmikpoenbcaa", sum := "0b4acdfe7f377e058b08d6c48d01425cdd51b75f86e0830f9a9107ccd0ece03d", func := "cabstand/cabstandlaw02.CodecWrites", spec := "codecWrites", unfollowed := true, recurses := true, apart := false }
def CodecWritesSaid : Prop := codecWritesRow.holds Try.pinned (OpenSpec.ofChange codecWritesSpec)

/-- ITS FALSE NEIGHBOUR: 'it returns false'. Refute it at one input. -/
def codecWritesWrong : ChangeSpec := { name := "codecWrites", fn := fun _ => fun
  | [d] => { results := [.lit (.bool false)], args := [d] }
  | _ => none }
def CodecWritesWrongFalsely : Prop := codecWritesRow.holds Try.pinned (OpenSpec.ofChange codecWritesWrong)

/-- 'cabstandlaw02.CodecNames': WHATEVER THE INPUT: true; the input reads as it did. -/
def codecNamesSpec : ChangeSpec := { name := "codecNames", fn := fun _ => fun
  | [] => { results := [.lit (.bool true)], args := [] }
  | _ => none }
def codecNamesRow : OpenClaim := { program := "ytjijmikpoenbcaa", sum := "0b4acdfe7f377e058b08d6c48d01425cdd51b75f86e0830f9a9107ccd0ece03d", func := "cabstand/cabstandlaw02.CodecNames", spec := "codecNames", unfollowed := true, recurses := true, apart := false }
def CodecNamesSaid : Prop := codecNamesRow.holds Try.pinned (OpenSpec.ofChange codecNamesSpec)

/-- ITS FALSE NEIGHBOUR: 'it returns false'. Refute it at one input. -/
def codecNamesWrong : ChangeSpec := { name := "codecNames", fn := fun _ => fun
  | [] => { results := [.lit (.bool false)], args := [] }
  | _ => none }
def CodecNamesWrongFalsely : Prop := codecNamesRow.holds Try.pinned (OpenSpec.ofChange codecNamesWrong)

/-- 'cabstandlaw02.CodecReads': WHATEVER THE INPUT: true; the input reads as it did. -/
def codecReadsSpec : ChangeSpec := { name := "codecReads", fn := fun _ => fun
  | [d1, d2, d3] => { results := [.lit (.bool true)], args := [d1, d2, d3] }
  | _ => none }
def codecReadsRow : OpenClaim := { program := "ytjijmikpoenbcaa", sum := "0b4acdfe7f377e058b08d6c48d01425cdd51b75f86e0830f9a9107ccd0ece03d", func := "cabstand/cabstandlaw02.CodecReads", spec := "codecReads", unfollowed := true, recurses := true, apart := false }
def CodecReadsSaid : Prop := codecReadsRow.holds Try.pinned (OpenSpec.ofChange codecReadsSpec)

/-- ITS FALSE NEIGHBOUR: 'it returns false'. Refute it at one input. -/
def codecReadsWrong : ChangeSpec := { name := "codecReads", fn := fun _ => fun
  | [d1, d2, d3] => { results := [.lit (.bool false)], args := [d1, d2, d3] }
  | _ => none }
def CodecReadsWrongFalsely : Prop := codecReadsRow.holds Try.pinned (OpenSpec.ofChange codecReadsWrong)

/-- 'cabstandlaw02.CodecStays': WHATEVER THE INPUT: true; the input reads as it did. -/
def codecStaysSpec : ChangeSpec := { name := "codecStays", fn := fun _ => fun
  | [d1, d2, d3] => { results := [.lit (.bool true)], args := [d1, d2, d3] }
  | _ => none }
def codecStaysRow : OpenClaim := { program := "ytjijmikpoenbcaa", sum := "0b4acdfe7f377e058b08d6c48d01425cdd51b75f86e0830f9a9107ccd0ece03d", func := "cabstand/cabstandlaw02.CodecStays", spec := "codecStays", unfollowed := true, recurses := true, apart := false }
def CodecStaysSaid : Prop := codecStaysRow.holds Try.pinned (OpenSpec.ofChange codecStaysSpec)

/-- ITS FALSE NEIGHBOUR: 'it returns false'. Refute it at one input. -/
def codecStaysWrong : ChangeSpec := { name := "codecStays", fn := fun _ => fun
  | [d1, d2, d3] => { results := [.lit (.bool false)], args := [d1, d2, d3] }
  | _ => none }
def CodecStaysWrongFalsely : Prop := codecStaysRow.holds Try.pinned (OpenSpec.ofChange codecStaysWrong)

/-- 'cabstandlaw02.CodecBack': WHATEVER THE INPUT: true; the input reads as it did. -/
def codecBackSpec : ChangeSpec := { name := "codecBack", fn := fun _ => fun
  | [d] => { results := [.lit (.bool true)], args := [d] }
  | _ => none }
def codecBackRow : OpenClaim := { program := "ytjijmikpoenbcaa", sum := "0b4acdfe7f377e058b08d6c48d01425cdd51b75f86e0830f9a9107ccd0ece03d", func := "cabstand/cabstandlaw02.CodecBack", spec := "codecBack", unfollowed := true, recurses := true, apart := false }
def CodecBackSaid : Prop := codecBackRow.holds Try.pinned (OpenSpec.ofChange codecBackSpec)

/-- ITS FALSE NEIGHBOUR: 'it returns false'. Refute it at one input. -/
def codecBackWrong : ChangeSpec := { name := "codecBack", fn := fun _ => fun
  | [d] => { results := [.lit (.bool false)], args := [d] }
  | _ => none }
def CodecBackWrongFalsely : Prop := codecBackRow.holds Try.pinned (OpenSpec.ofChange codecBackWrong)

/-- 'cabstandlaw02.CodecForms': WHATEVER THE INPUT: true; the input reads as it did. -/
def codecFormsSpec : ChangeSpec := { name := "codecForms", fn := fun _ => fun
  | [d1, d2] => { results := [.lit (.bool true)], args := [d1, d2] }
  | _ => none }
def codecFormsRow : OpenClaim := { program := "ytjijmikpoenbcaa", sum := "0b4acdfe7f377e058b08d6c48d01425cdd51b75f86e0830f9a9107ccd0ece03d", func := "cabstand/cabstandlaw02.CodecForms", spec := "codecForms", unfollowed := true, recurses := true, apart := false }
def CodecFormsSaid : Prop := codecFormsRow.holds Try.pinned (OpenSpec.ofChange codecFormsSpec)

/-- ITS FALSE NEIGHBOUR: 'it returns false'. Refute it at one input. -/
def codecFormsWrong : ChangeSpec := { name := "codecForms", fn := fun _ => fun
  | [d1, d2] => { results := [.lit (.bool false)], args := [d1, d2] }
  | _ => none }
def CodecFormsWrongFalsely : Prop := codecFormsRow.holds Try.pinned (OpenSpec.ofChange codecFormsWrong)

/-- 'cabstandlaw02.CodecCuts': WHATEVER THE INPUT: true; the input reads as it did. -/
def codecCutsSpec : ChangeSpec := { name := "codecCuts", fn := fun _ => fun
  | [d1, d2] => { results := [.lit (.bool true)], args := [d1, d2] }
  | _ => none }
def codecCutsRow : OpenClaim := { program := "ytjijmikpoenbcaa", sum := "0b4acdfe7f377e058b08d6c48d01425cdd51b75f86e0830f9a9107ccd0ece03d", func := "cabstand/cabstandlaw02.CodecCuts", spec := "codecCuts", unfollowed := true, recurses := true, apart := false }
def CodecCutsSaid : Prop := codecCutsRow.holds Try.pinned (OpenSpec.ofChange codecCutsSpec)

/-- ITS FALSE NEIGHBOUR: 'it returns false'. Refute it at one input. -/
def codecCutsWrong : ChangeSpec := { name := "codecCuts", fn := fun _ => fun
  | [d1, d2] => { results := [.lit (.bool false)], args := [d1, d2] }
  | _ => none }
def CodecCutsWrongFalsely : Prop := codecCutsRow.holds Try.pinned (OpenSpec.ofChange codecCutsWrong)

/- THE SECOND FORM. 'bulk': how many values and letters a reading holds, each counted each time it is reached (what is shared counts as often as it is met; a slice's spare places count too). A statement '..UptoSaid' is the law's where the arguments, and the package variables that the reading takes, are together of bulk at most 1048576: NARROWER than '..Said'. Prove '..Said' where nothing that the law and all that it calls make is longer than what came in: it says more and counts as full. Else prove '..UptoSaid'. A law counts once. -/
mutual
def uptoBulk {H : Type} : DataW H → Nat
  | .lit (.string bytes) => bytes.length + 1
  | .lit _ => 1
  | .nil => 1
  | .ptr d => uptoBulk d + 1
  | .slice elems spare => uptoBulkAll elems + uptoBulkAll spare + 1
  | .agg parts => uptoBulkAll parts + 1
  | .iface _ d => uptoBulk d + 1
  | .map entries => uptoBulkEntries entries + 1
  | .held _ => 1
def uptoBulkAll {H : Type} : List (DataW H) → Nat
  | [] => 0
  | d :: r => uptoBulk d + uptoBulkAll r
def uptoBulkEntries {H : Type} : List (Lit × DataW H) → Nat
  | [] => 0
  | x :: r => uptoBulkEntry x + uptoBulkEntries r
def uptoBulkEntry {H : Type} : Lit × DataW H → Nat
  | (.string bytes, d) => bytes.length + uptoBulk d + 1
  | (_, d) => uptoBulk d + 1
 end
def uptoSmall : (H : Type) → List (DataW H) → Bool := fun _ ds => decide (uptoBulkAll ds ≤ 1048576)
def OpenSpec.upto (s : _root_.Go.ChangeSpec) : _root_.Go.OpenSpec := { _root_.Go.OpenSpec.ofChange s with cond := some uptoSmall }

/-- 'cabstandlaw02.CodecSums', WHERE WHAT IT READS IS OF BULK AT MOST 1048576: true; the input reads as it did. -/
def codecSumsUptoRow : OpenClaim := { program := "ytjijmikpoenbcaa", sum := "0b4acdfe7f377e058b08d6c48d01425cdd51b75f86e0830f9a9107ccd0ece03d", func := "cabstand/cabstandlaw02.CodecSums", spec := "codecSums", unfollowed := true, recurses := true, apart := false, narrowed := true }
def CodecSumsUptoSaid : Prop := codecSumsUptoRow.holds Try.pinned (OpenSpec.upto codecSumsSpec)

/-- 'cabstandlaw02.CodecXors', WHERE WHAT IT READS IS OF BULK AT MOST 1048576: true; the input reads as it did. -/
def codecXorsUptoRow : OpenClaim := { program := "ytjijmikpoenbcaa", sum := "0b4acdfe7f377e058b08d6c48d01425cdd51b75f86e0830f9a9107ccd0ece03d", func := "cabstand/cabstandlaw02.CodecXors", spec := "codecXors", unfollowed := true, recurses := true, apart := false, narrowed := true }
def CodecXorsUptoSaid : Prop := codecXorsUptoRow.holds Try.pinned (OpenSpec.upto codecXorsSpec)

/-- 'cabstandlaw02.CodecTurned', WHERE WHAT IT READS IS OF BULK AT MOST 1048576: true; the input reads as it did. -/
def codecTurnedUptoRow : OpenClaim := { program := "ytjijmikpoenbcaa", sum := "0b4acdfe7f377e058b08d6c48d01425cdd51b75f86e0830f9a9107ccd0ece03d", func := "cabstand/cabstandlaw02.CodecTurned", spec := "codecTurned", unfollowed := true, recurses := true, apart := false, narrowed := true }
def CodecTurnedUptoSaid : Prop := codecTurnedUptoRow.holds Try.pinned (OpenSpec.upto codecTurnedSpec)

/-- 'cabstandlaw02.CodecWrites', WHERE WHAT IT READS IS OF BULK AT MOST 1048576: true; the input reads as it did. -/
def codecWritesUptoRow : OpenClaim := { program := "ytjijmikpoenbcaa", sum := "0b4acdfe7f377e058b08d6c48d01425cdd51b75f86e0830f9a9107ccd0ece03d", func := "cabstand/cabstandlaw02.CodecWrites", spec := "codecWrites", unfollowed := true, recurses := true, apart := false, narrowed := true }
def CodecWritesUptoSaid : Prop := codecWritesUptoRow.holds Try.pinned (OpenSpec.upto codecWritesSpec)

/-- 'cabstandlaw02.CodecNames', WHERE WHAT IT READS IS OF BULK AT MOST 1048576: true; the input reads as it did. -/
def codecNamesUptoRow : OpenClaim := { program := "ytjijmikpoenbcaa", sum := "0b4acdfe7f377e058b08d6c48d01425cdd51b75f86e0830f9a9107ccd0ece03d", func := "cabstand/cabstandlaw02.CodecNames", spec := "codecNames", unfollowed := true, recurses := true, apart := false, narrowed := true }
def CodecNamesUptoSaid : Prop := codecNamesUptoRow.holds Try.pinned (OpenSpec.upto codecNamesSpec)

/-- 'cabstandlaw02.CodecReads', WHERE WHAT IT READS IS OF BULK AT MOST 1048576: true; the input reads as it did. -/
def codecReadsUptoRow : OpenClaim := { program := "ytjijmikpoenbcaa", sum := "0b4acdfe7f377e058b08d6c48d01425cdd51b75f86e0830f9a9107ccd0ece03d", func := "cabstand/cabstandlaw02.CodecReads", spec := "codecReads", unfollowed := true, recurses := true, apart := false, narrowed := true }
def CodecReadsUptoSaid : Prop := codecReadsUptoRow.holds Try.pinned (OpenSpec.upto codecReadsSpec)

/-- 'cabstandlaw02.CodecStays', WHERE WHAT IT READS IS OF BULK AT MOST 1048576: true; the input reads as it did. -/
def codecStaysUptoRow : OpenClaim := { program := "ytjijmikpoenbcaa", sum := "0b4acdfe7f377e058b08d6c48d01425cdd51b75f86e0830f9a9107ccd0ece03d", func := "cabstand/cabstandlaw02.CodecStays", spec := "codecStays", unfollowed := true, recurses := true, apart := false, narrowed := true }
def CodecStaysUptoSaid : Prop := codecStaysUptoRow.holds Try.pinned (OpenSpec.upto codecStaysSpec)

/-- 'cabstandlaw02.CodecBack', WHERE WHAT IT READS IS OF BULK AT MOST 1048576: true; the input reads as it did. -/
def codecBackUptoRow : OpenClaim := { program := "ytjijmikpoenbcaa", sum := "0b4acdfe7f377e058b08d6c48d01425cdd51b75f86e0830f9a9107ccd0ece03d", func := "cabstand/cabstandlaw02.CodecBack", spec := "codecBack", unfollowed := true, recurses := true, apart := false, narrowed := true }
def CodecBackUptoSaid : Prop := codecBackUptoRow.holds Try.pinned (OpenSpec.upto codecBackSpec)

/-- 'cabstandlaw02.CodecForms', WHERE WHAT IT READS IS OF BULK AT MOST 1048576: true; the input reads as it did. -/
def codecFormsUptoRow : OpenClaim := { program := "ytjijmikpoenbcaa", sum := "0b4acdfe7f377e058b08d6c48d01425cdd51b75f86e0830f9a9107ccd0ece03d", func := "cabstand/cabstandlaw02.CodecForms", spec := "codecForms", unfollowed := true, recurses := true, apart := false, narrowed := true }
def CodecFormsUptoSaid : Prop := codecFormsUptoRow.holds Try.pinned (OpenSpec.upto codecFormsSpec)

/-- 'cabstandlaw02.CodecCuts', WHERE WHAT IT READS IS OF BULK AT MOST 1048576: true; the input reads as it did. -/
def codecCutsUptoRow : OpenClaim := { program := "ytjijmikpoenbcaa", sum := "0b4acdfe7f377e058b08d6c48d01425cdd51b75f86e0830f9a9107ccd0ece03d", func := "cabstand/cabstandlaw02.CodecCuts", spec := "codecCuts", unfollowed := true, recurses := true, apart := false, narrowed := true }
def CodecCutsUptoSaid : Prop := codecCutsUptoRow.holds Try.pinned (OpenSpec.upto codecCutsSpec)

end Rows
end Go.Proofs.Ytjijmikpoenbcaa
