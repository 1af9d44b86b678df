/-
  No cell of these rows narrows 'for every input' (looked for: loops, veiled, ifaces, maps, wideKeys, modest, calm, conditions, laid).
  DERIVED. THE GIVEN ROWS OF THIS SEAT. 7 by the template 'for every input the law returns true; each argument reads behind the call as it read before'; 0 by the template 'total and deterministic' (their statements: YtmdidgdcdlodlaaTotals.lean).
  GIVEN WITH THE SEED: the statements are not yours to turn. If you find one false, say at which input.
  Laid BY PROGRAM, IN A SANDBOX (cutbox-rows.mjs): the forced cells as the released guide's own fill.sh prints them over the translation 0c16dc5a1a0e9b35… (all of the seat's roots in one cut). By AI agents, Wed Nov 11 2026. No macro, syntax, notation, axiom, sorry.
-/
import Derived.Test.YtmdidgdcdlodlaaChecked
import GoSem.Claim
import GoSem.ClaimJoined
import GoSem.ClaimMapViews
import Derived.JoinedTies
import Derived.KernelRfl
namespace Go.Proofs.Ytmdidgdcdlodlaa
/- THE CELL 'sum', in the pinned program and in every row, IS THE sha256 OF THE DUMP (.gsa) THAT YtmdidgdcdlodlaaProg.lean LOADS. Nothing in Lean hashes anything: it is a label: what it is worth is what the hold of that sum in a sandbox is worth. -/
noncomputable def Try.pinned : Pinned := { name := "ytmdidgdcdlodlaa", sum := "0c16dc5a1a0e9b354fdbbbb5df4a98ca337faf860cfb42f9c2f055b0d7e5cb21", checked := Try.checked }
namespace Rows
def none {H : Type} : Left H := { results := [], args := [] }

/-- 'cabstandlaw18.CertChecks': WHATEVER THE INPUT: true; the input reads as it did. -/
def certChecksSpec : ChangeSpec := { name := "certChecks", fn := fun _ => fun
  | [d1, d2] => { results := [.lit (.bool true)], args := [d1, d2] }
  | _ => none }
def certChecksRow : OpenClaim := { program := "ytmdidgdcdlodlaa", sum := "0c16dc5a1a0e9b354fdbbbb5df4a98ca337faf860cfb42f9c2f055b0d7e5cb21", func := "cabstand/cabstandlaw18.CertChecks", spec := "certChecks", unfollowed := true, recurses := true, apart := false }
def CertChecksSaid : Prop := certChecksRow.holds Try.pinned (OpenSpec.ofChange certChecksSpec)

/-- ITS FALSE NEIGHBOUR: 'it returns false'. Refute it at one input. -/
def certChecksWrong : ChangeSpec := { name := "certChecks", fn := fun _ => fun
  | [d1, d2] => { results := [.lit (.bool false)], args := [d1, d2] }
  | _ => none }
def CertChecksWrongFalsely : Prop := certChecksRow.holds Try.pinned (OpenSpec.ofChange certChecksWrong)

/-- 'cabstandlaw18.CertPairs': WHATEVER THE INPUT: true; the input reads as it did. -/
def certPairsSpec : ChangeSpec := { name := "certPairs", fn := fun _ => fun
  | [d1, d2] => { results := [.lit (.bool true)], args := [d1, d2] }
  | _ => none }
def certPairsRow : OpenClaim := { program := "ytmdidgdcdlodlaa", sum := "0c16dc5a1a0e9b354fdbbbb5df4a98ca337faf860cfb42f9c2f055b0d7e5cb21", func := "cabstand/cabstandlaw18.CertPairs", spec := "certPairs", unfollowed := true, recurses := true, apart := false }
def CertPairsSaid : Prop := certPairsRow.holds Try.pinned (OpenSpec.ofChange certPairsSpec)

/-- ITS FALSE NEIGHBOUR: 'it returns false'. Refute it at one input. -/
def certPairsWrong : ChangeSpec := { name := "certPairs", fn := fun _ => fun
  | [d1, d2] => { results := [.lit (.bool false)], args := [d1, d2] }
  | _ => none }
def CertPairsWrongFalsely : Prop := certPairsRow.holds Try.pinned (OpenSpec.ofChange certPairsWrong)

/-- 'cabstandlaw18.CertBounds': WHATEVER THE INPUT: true; the input reads as it did. -/
def certBoundsSpec : ChangeSpec := { name := "certBounds", fn := fun _ => fun
  | [d1, d2, d3] => { results := [.lit (.bool true)], args := [d1, d2, d3] }
  | _ => none }
def certBoundsRow : OpenClaim := { program := "ytmdidgdcdlodlaa", sum := "0c16dc5a1a0e9b354fdbbbb5df4a98ca337faf860cfb42f9c2f055b0d7e5cb21", func := "cabstand/cabstandlaw18.CertBounds", spec := "certBounds", unfollowed := true, recurses := true, apart := false }
def CertBoundsSaid : Prop := certBoundsRow.holds Try.pinned (OpenSpec.ofChange certBoundsSpec)

/-- ITS FALSE NEIGHBOUR: 'it returns false'. Refute it at one input. -/
def certBoundsWrong : ChangeSpec := { name := "certBounds", fn := fun _ => fun
  | [d1, d2, d3] => { results := [.lit (.bool false)], args := [d1, d2, d3] }
  | _ => none }
def CertBoundsWrongFalsely : Prop := certBoundsRow.holds Try.pinned (OpenSpec.ofChange certBoundsWrong)

/-- 'cabstandlaw18.CertWeak': WHATEVER THE INPUT: true; the input reads as it did. -/
def certWeakSpec : ChangeSpec := { name := "certWeak", fn := fun _ => fun
  | [d1, d2, d3] => { results := [.lit (.bool true)], args := [d1, d2, d3] }
  | _ => none }
def certWeakRow : OpenClaim := { program := "ytmdidgdcdlodlaa", sum := "0c16dc5a1a0e9b354fdbbbb5df4a98ca337faf860cfb42f9c2f055b0d7e5cb21", func := "cabstand/cabstandlaw18.CertWeak", spec := "certWeak", unfollowed := true, recurses := true, apart := false }
def CertWeakSaid : Prop := certWeakRow.holds Try.pinned (OpenSpec.ofChange certWeakSpec)

/-- ITS FALSE NEIGHBOUR: 'it returns false'. Refute it at one input. -/
def certWeakWrong : ChangeSpec := { name := "certWeak", fn := fun _ => fun
  | [d1, d2, d3] => { results := [.lit (.bool false)], args := [d1, d2, d3] }
  | _ => none }
def CertWeakWrongFalsely : Prop := certWeakRow.holds Try.pinned (OpenSpec.ofChange certWeakWrong)

/-- 'cabstandlaw18.CertBest': WHATEVER THE INPUT: true; the input reads as it did. -/
def certBestSpec : ChangeSpec := { name := "certBest", fn := fun _ => fun
  | [d1, d2, d3] => { results := [.lit (.bool true)], args := [d1, d2, d3] }
  | _ => none }
def certBestRow : OpenClaim := { program := "ytmdidgdcdlodlaa", sum := "0c16dc5a1a0e9b354fdbbbb5df4a98ca337faf860cfb42f9c2f055b0d7e5cb21", func := "cabstand/cabstandlaw18.CertBest", spec := "certBest", unfollowed := true, recurses := true, apart := false }
def CertBestSaid : Prop := certBestRow.holds Try.pinned (OpenSpec.ofChange certBestSpec)

/-- ITS FALSE NEIGHBOUR: 'it returns false'. Refute it at one input. -/
def certBestWrong : ChangeSpec := { name := "certBest", fn := fun _ => fun
  | [d1, d2, d3] => { results := [.lit (.bool false)], args := [d1, d2, d3] }
  | _ => none }
def CertBestWrongFalsely : Prop := certBestRow.holds Try.pinned (OpenSpec.ofChange certBestWrong)

/-- 'cabstandlaw18.CertTight': WHATEVER THE INPUT: true; the input reads as it did. -/
def certTightSpec : ChangeSpec := { name := "certTight", fn := fun _ => fun
  | [d1, d2] => { results := [.lit (.bool true)], args := [d1, d2] }
  | _ => none }
def certTightRow : OpenClaim := { program := "ytmdidgdcdlodlaa", sum := "0c16dc5a1a0e9b354fdbbbb5df4a98ca337faf860cfb42f9c2f055b0d7e5cb21", func := "cabstand/cabstandlaw18.CertTight", spec := "certTight", unfollowed := true, recurses := true, apart := false }
def CertTightSaid : Prop := certTightRow.holds Try.pinned (OpenSpec.ofChange certTightSpec)

/-- ITS FALSE NEIGHBOUR: 'it returns false'. Refute it at one input. -/
def certTightWrong : ChangeSpec := { name := "certTight", fn := fun _ => fun
  | [d1, d2] => { results := [.lit (.bool false)], args := [d1, d2] }
  | _ => none }
def CertTightWrongFalsely : Prop := certTightRow.holds Try.pinned (OpenSpec.ofChange certTightWrong)

/-- 'cabstandlaw18.CertTwo': WHATEVER THE INPUT: true; the input reads as it did. -/
def certTwoSpec : ChangeSpec := { name := "certTwo", fn := fun _ => fun
  | [d1, d2, d3] => { results := [.lit (.bool true)], args := [d1, d2, d3] }
  | _ => none }
def certTwoRow : OpenClaim := { program := "ytmdidgdcdlodlaa", sum := "0c16dc5a1a0e9b354fdbbbb5df4a98ca337faf860cfb42f9c2f055b0d7e5cb21", func := "cabstand/cabstandlaw18.CertTwo", spec := "certTwo", unfollowed := true, recurses := true, apart := false }
def CertTwoSaid : Prop := certTwoRow.holds Try.pinned (OpenSpec.ofChange certTwoSpec)

/-- ITS FALSE NEIGHBOUR: 'it returns false'. Refute it at one input. -/
def certTwoWrong : ChangeSpec := { name := "certTwo", fn := fun _ => fun
  | [d1, d2, d3] => { results := [.lit (.bool false)], args := [d1, d2, d3] }
  | _ => none }
def CertTwoWrongFalsely : Prop := certTwoRow.holds Try.pinned (OpenSpec.ofChange certTwoWrong)

/- THE SECOND FORM. 'bulk': how many values and letters a reading holds, each counted each time it is reached (what is shared counts as often as it is met; a slice's spare places count too). A statement '..UptoSaid' is the law's where the arguments, and the package variables that the reading takes, are together of bulk at most 1048576: NARROWER than '..Said'. Prove '..Said' where nothing that the law and all that it calls make is longer than what came in: it says more and counts as full. Else prove '..UptoSaid'. A law counts once. -/
mutual
def uptoBulk {H : Type} : DataW H → Nat
  | .lit (.string bytes) => bytes.length + 1
  | .lit _ => 1
  | .nil => 1
  | .ptr d => uptoBulk d + 1
  | .slice elems spare => uptoBulkAll elems + uptoBulkAll spare + 1
  | .agg parts => uptoBulkAll parts + 1
  | .iface _ d => uptoBulk d + 1
  | .map entries => uptoBulkEntries entries + 1
  | .held _ => 1
def uptoBulkAll {H : Type} : List (DataW H) → Nat
  | [] => 0
  | d :: r => uptoBulk d + uptoBulkAll r
def uptoBulkEntries {H : Type} : List (Lit × DataW H) → Nat
  | [] => 0
  | x :: r => uptoBulkEntry x + uptoBulkEntries r
def uptoBulkEntry {H : Type} : Lit × DataW H → Nat
  | (.string bytes, d) => bytes.length + uptoBulk d + 1
  | (_, d) => uptoBulk d + 1
 end
def uptoSmall : (H : Type) → List (DataW H) → Bool := fun _ ds => decide (uptoBulkAll ds ≤ 1048576)
def OpenSpec.upto (s : _root_.Go.ChangeSpec) : _root_.Go.OpenSpec := { _root_.Go.OpenSpec.ofChange s with cond := some uptoSmall }

/-- 'cabstandlaw18.CertChecks', WHERE WHAT IT READS IS OF BULK AT MOST 1048576: true; the input reads as it did. -/
def certChecksUptoRow : OpenClaim := { program := "ytmdidgdcdlodlaa", sum := "0c16dc5a1a0e9b354fdbbbb5df4a98ca337faf860cfb42f9c2f055b0d7e5cb21", func := "cabstand/cabstandlaw18.CertChecks", spec := "certChecks", unfollowed := true, recurses := true, apart := false, narrowed := true }
def CertChecksUptoSaid : Prop := certChecksUptoRow.holds Try.pinned (OpenSpec.upto certChecksSpec)

/-- 'cabstandlaw18.CertPairs', WHERE WHAT IT READS IS OF BULK AT MOST 1048576: true; the input reads as it did. -/
def certPairsUptoRow : OpenClaim := { program := "ytmdidgdcdlodlaa", sum := "0c16dc5a1a0e9b354fdbbbb5df4a98ca337faf860cfb42f9c2f055b0d7e5cb21", func := "cabstand/cabstandlaw18.CertPairs", spec := "certPairs", unfollowed := true, recurses := true, apart := false, narrowed := true }
def CertPairsUptoSaid : Prop := certPairsUptoRow.holds Try.pinned (OpenSpec.upto certPairsSpec)

/-- 'cabstandlaw18.CertBounds', WHERE WHAT IT READS IS OF BULK AT MOST 1048576: true; the input reads as it did. -/
def certBoundsUptoRow : OpenClaim := { program := "ytmdidgdcdlodlaa", sum := "0c16dc5a1a0e9b354fdbbbb5df4a98ca337faf860cfb42f9c2f055b0d7e5cb21", func := "cabstand/cabstandlaw18.CertBounds", spec := "certBounds", unfollowed := true, recurses := true, apart := false, narrowed := true }
def CertBoundsUptoSaid : Prop := certBoundsUptoRow.holds Try.pinned (OpenSpec.upto certBoundsSpec)

/-- 'cabstandlaw18.CertWeak', WHERE WHAT IT READS IS OF BULK AT MOST 1048576: true; the input reads as it did. -/
def certWeakUptoRow : OpenClaim := { program := "ytmdidgdcdlodlaa", sum := "0c16dc5a1a0e9b354fdbbbb5df4a98ca337faf860cfb42f9c2f055b0d7e5cb21", func := "cabstand/cabstandlaw18.CertWeak", spec := "certWeak", unfollowed := true, recurses := true, apart := false, narrowed := true }
def CertWeakUptoSaid : Prop := certWeakUptoRow.holds Try.pinned (OpenSpec.upto certWeakSpec)

/-- 'cabstandlaw18.CertBest', WHERE WHAT IT READS IS OF BULK AT MOST 1048576: true; the input reads as it did. -/
def certBestUptoRow : OpenClaim := { program := "ytmdidgdcdlodlaa", sum := "0c16dc5a1a0e9b354fdbbbb5df4a98ca337faf860cfb42f9c2f055b0d7e5cb21", func := "cabstand/cabstandlaw18.CertBest", spec := "certBest", unfollowed := true, recurses := true, apart := false, narrowed := true }
def CertBestUptoSaid : Prop := certBestUptoRow.holds Try.pinned (OpenSpec.upto certBestSpec)

/-- 'cabstandlaw18.CertTight', WHERE WHAT IT READS IS OF BULK AT MOST 1048576: true; the input reads as it did. -/
def certTightUptoRow : OpenClaim := { program := "ytmdidgdcdlodlaa", sum := "0c16dc5a1a0e9b354fdbbbb5df4a98ca337faf860cfb42f9c2f055b0d7e5cb21", func := "cabstand/cabstandlaw18.CertTight", spec := "certTight", unfollowed := true, recurses := true, apart := false, narrowed := true }
def CertTightUptoSaid : Prop := certTightUptoRow.holds Try.pinned (OpenSpec.upto certTightSpec)

/-- 'cabstandlaw18.CertTwo', WHERE WHAT IT READS IS OF BULK AT MOST 1048576: true; the input reads as it did. -/
def certTwoUptoRow : OpenClaim := { program := "ytmdidgdcdlodlaa", sum := "0c16dc5a1a0e9b354fdbbbb5df4a98ca337faf860cfb42f9c2f055b0d7e5cb21", func := "cabstand/cabstandlaw18.CertTwo", spec := "certTwo", unfollowed := true, recurses := true, apart := false, narrowed := true }
def CertTwoUptoSaid : Prop := certTwoUptoRow.holds Try.pinned (OpenSpec.upto certTwoSpec)

end Rows
end Go.Proofs.Ytmdidgdcdlodlaa
