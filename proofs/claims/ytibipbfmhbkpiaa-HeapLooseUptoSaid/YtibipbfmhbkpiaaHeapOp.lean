/- How the lists of the laws about heaps are told. No condition. Written in this session. -/
import Derived.Test.YtibipbfmhbkpiaaOpen
import Derived.Test.YtibipbfmhbkpiaaQ0
namespace Go.Proofs.Ytibipbfmhbkpiaa.Open
open Go.RowKit Go.Proofs.YtibipbfmhbkpiaaW.PrintWords Go.Proofs.Ytibipbfmhbkpiaa.Q
set_option maxRecDepth 100000 in
theorem openIt : Opens Try.prog 49 k49 (fun x => (Lit.int .i64 x.f0).wf = true ∧ (Lit.int .i64 x.f1).wf = true) :=
  Opens.iso (d := Kd.pair (Kd.int .i64) (Kd.int .i64)) (ok := fun p => (Lit.int .i64 p.1).wf = true ∧ (Lit.int .i64 p.2).wf = true) (Opens.weak (Opens.struct Try.underlying49 (by kernel_rfl) (Fields.cons (Opens.int Try.underlying3 (by kernel_rfl)) (Fields.one (Opens.int Try.underlying3 (by kernel_rfl))))) (fun _ h => h)) (fun x : S49 => (x.f0, x.f1)) (fun p => ⟨p.1, p.2⟩) (fun _ => rfl)
end Go.Proofs.Ytibipbfmhbkpiaa.Open
