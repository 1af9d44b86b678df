import Derived.Test.YtjijmikpoenbcaaQ8
namespace Go.Proofs.Ytjijmikpoenbcaa.Q
open Go.RowKit Go.Proofs.YtjijmikpoenbcaaW.PrintWords Go.Proofs.YtjijmikpoenbcaaW.PrintLast
def cabstandlaw02_CodecSums.PureS : Prop := ∀ (l0 : List Int), (l0.length * 1 ≤ reachBytes ∧ ∀ y2_ ∈ l0, (Lit.int .u8 y2_).wf = true) → cabstandlaw02_CodecSums.f l0 = some true
theorem pureCodecSums : cabstandlaw02_CodecSums.PureS := by
  rintro l0 ⟨hl, hb⟩
  have hreach : reachBytes = 140737488351232 := by decide +kernel
  rw [hreach] at hl
  have hB : bytesB l0 = true := by
    rw [bytesB_iff]
    intro x hx
    have h := hb x hx
    simp [Lit.wf, IntKind.min, IntKind.max, IntKind.signed, IntKind.bits] at h
    omega
  unfold cabstandlaw02_CodecSums.f
  rw [if_pos ⟨hB, by omega⟩]
end Go.Proofs.Ytjijmikpoenbcaa.Q
