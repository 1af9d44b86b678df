/- How a list of points is told. No condition. Written in this session. -/
import Derived.Test.YtibipbfmhbkpiaaOpen
import Derived.Test.YtibipbfmhbkpiaaHeapKL
namespace Go.Proofs.Ytibipbfmhbkpiaa.Open
open Go.RowKit Go.Proofs.YtibipbfmhbkpiaaW.PrintWords Go.Proofs.Ytibipbfmhbkpiaa.Q
set_option maxRecDepth 100000 in
theorem openPt : Opens Try.prog 66 HeapPR.kPt (fun p => (Lit.int .i16 p.1).wf = true ∧ (Lit.int .i16 p.2).wf = true) :=
  Opens.weak (Opens.struct Try.underlying66 (by kernel_rfl) (Fields.cons (Opens.int Try.underlying64 (by kernel_rfl)) (Fields.one (Opens.int Try.underlying64 (by kernel_rfl))))) (fun _ h => h)
end Go.Proofs.Ytibipbfmhbkpiaa.Open
