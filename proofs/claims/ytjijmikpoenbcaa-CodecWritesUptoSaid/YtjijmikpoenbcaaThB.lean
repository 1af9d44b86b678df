/- How a list of things is told, with a bound by its bulk. No condition. Written in this session. -/
import Derived.Test.YtjijmikpoenbcaaOpenB
import Derived.Test.YtjijmikpoenbcaaThing
namespace Go.Proofs.Ytjijmikpoenbcaa.Codec
open Go.RowKit Go.Proofs.YtjijmikpoenbcaaW.PrintWords Go.Proofs.Ytjijmikpoenbcaa.Open
set_option linter.unusedVariables false
theorem openThB : OpensB Try.prog 46 kTh okTh (fun t n => t.t.length ≤ n) :=
  OpensB.weak (OpensB.struct Try.underlying46 (by kernel_rfl) (FieldsB.cons (OpensB.of (Opens.int Try.underlying3 (by kernel_rfl))) (FieldsB.cons (OpensB.of (Opens.int Try.underlying3 (by kernel_rfl))) (FieldsB.cons (OpensB.of (Opens.int Try.underlying39 (by kernel_rfl))) (FieldsB.cons (OpensB.of (Opens.int Try.underlying3 (by kernel_rfl))) (FieldsB.cons (OpensB.of (Opens.int Try.underlying3 (by kernel_rfl))) (FieldsB.cons (OpensB.of (Opens.arr (by decide) Try.underlying41 (by kernel_rfl) (Opens.int Try.underlying5 (by kernel_rfl)))) (FieldsB.cons (OpensB.of (Opens.struct Try.underlying44 (by kernel_rfl) (Fields.cons (Opens.int Try.underlying42 (by kernel_rfl)) (Fields.one (Opens.int Try.underlying42 (by kernel_rfl)))))) (FieldsB.one (OpensB.slice 1 Try.underlying22 (by kernel_rfl) (by kernel_rfl) (OpensB.of (Opens.int Try.underlying5 (by kernel_rfl)))))))))))))
    (fun hn h => Nat.le_trans h hn) (fun a h => h) (fun a n h => h.2.2.2.2.2.2.2.1)
end Go.Proofs.Ytjijmikpoenbcaa.Codec
