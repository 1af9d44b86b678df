import Derived.Test.YtjijmikpoenbcaaQ9
namespace Go.Proofs.Ytjijmikpoenbcaa.Q
open Go.RowKit Go.Proofs.YtjijmikpoenbcaaW.PrintWords Go.Proofs.YtjijmikpoenbcaaW.PrintLast
def cabstandlaw02_CodecNames.PureS : Prop := cabstandlaw02_CodecNames.f  = some true
theorem pureCodecNames : cabstandlaw02_CodecNames.PureS := by
  rfl
end Go.Proofs.Ytjijmikpoenbcaa.Q
