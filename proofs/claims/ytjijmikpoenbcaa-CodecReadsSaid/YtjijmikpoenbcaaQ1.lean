/- What functions of the program answer, each by a Lean function and the proof of its call; written by this session's program gp.py and by hand. Conditions: those that stand in each theorem. -/
import Derived.Test.YtjijmikpoenbcaaCodecS
import Derived.Test.YtjijmikpoenbcaaQ0
namespace Go.Proofs.Ytjijmikpoenbcaa.Q
open Go.RowKit Go.Proofs.YtjijmikpoenbcaaW.PrintWords Go.Proofs.YtjijmikpoenbcaaW.PrintLast Go.Proofs.YtjijmikpoenbcaaW.PrintMore
attribute [local go_sem] max2_int min2_int max_two min_two max_three min_three max_four min_four   -- for this text's walks alone
set_option linter.unusedVariables false
set_option linter.unusedSimpArgs false

/-! ### codec_Sum: function 14 -/
def bytesB (l : List Int) : Bool := l.all (fun x => decide (0 ≤ x) && decide (x < 256))
theorem bytesB_iff (l : List Int) : bytesB l = true ↔ Go.Proofs.Ytjijmikpoenbcaa.Codec.IsBytes l := by
  simp [bytesB, Go.Proofs.Ytjijmikpoenbcaa.Codec.IsBytes]
def codec_Sum.f (l0 : List Int) : Option Int := if bytesB l0 = true then some ((Go.Proofs.Ytjijmikpoenbcaa.Codec.sumN l0 : Nat) : Int) else none
theorem codec_Sum.calls (A0 : Option Addr) (c0 : Nat) (l0 : List Int) (r : Int) (w : World) (hr0 : Kd.C (Kd.int .u8) w A0 l0.length l0) (hc0 : l0.length ≤ c0) (h : codec_Sum.f l0 = some r) :
    Calls Try.prog 14 #[.slice A0 l0.length c0] w fun e w' => e = .returned (.int .u32 r) ∧ Below w.heap.size w w' := by
  unfold codec_Sum.f at h
  split at h
  · rename_i hb
    obtain rfl := Option.some.inj h
    exact Go.Proofs.Ytjijmikpoenbcaa.Codec.Sum_calls A0 c0 l0 ((bytesB_iff l0).1 hb) w hr0
  · cases h

end Go.Proofs.Ytjijmikpoenbcaa.Q
