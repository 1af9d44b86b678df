/- The functions of the statement HeapLoose that are no orders. Conditions: those that stand in each theorem. Written in this session. -/
import Derived.Test.YtibipbfmhbkpiaaHeapOr
namespace Go.Proofs.Ytibipbfmhbkpiaa.HeapII
open Go.RowKit Go.Proofs.YtibipbfmhbkpiaaW.PrintWords Go.Proofs.YtibipbfmhbkpiaaW.PrintLast Go.Proofs.YtibipbfmhbkpiaaW.PrintMore Go.Proofs.Ytibipbfmhbkpiaa.HeapW Go.Proofs.Ytibipbfmhbkpiaa.HeapP Go.Proofs.Ytibipbfmhbkpiaa.MapAt Go.Proofs.Ytibipbfmhbkpiaa.Q
set_option linter.unusedVariables false
set_option linter.unusedSimpArgs false
set_option maxHeartbeats 800000 in
theorem less_lo1 : Less 55 (fun _ _ => true) where
  fn := ⟨Try.f55, Try.func55, by kernel_rfl, by kernel_rfl⟩
  calls a b w := by
    go_enter Try.func55, Try.ntmps55
    go_wp2
    go_ret
    exact ⟨rfl, Below.refl _ _⟩
set_option maxHeartbeats 800000 in
theorem less_lo2 : Less 56 (fun a b => decide (a ≤ b)) where
  fn := ⟨Try.f56, Try.func56, by kernel_rfl, by kernel_rfl⟩
  calls a b w := by
    go_enter Try.func56, Try.ntmps56
    go_wp2
    go_ret
    exact ⟨rfl, Below.refl _ _⟩
set_option maxHeartbeats 800000 in
theorem less_lo3 : Less 57 (fun a b => bits BinOp.and IntKind.i64 (bits BinOp.xor IntKind.i64 a b) 1 == 1) where
  fn := ⟨Try.f57, Try.func57, by kernel_rfl, by kernel_rfl⟩
  calls a b w := by
    go_enter Try.func57, Try.ntmps57
    go_wp2
    go_ret
    exact ⟨rfl, Below.refl _ _⟩
set_option maxHeartbeats 800000 in
theorem less_lo4 : Less 58 (fun a b => (wrap64 (a - b)).tmod 3 == 1) where
  fn := ⟨Try.f58, Try.func58, by kernel_rfl, by kernel_rfl⟩
  calls a b w := by
    go_enter Try.func58, Try.ntmps58
    go_wp2
    go_ret
    exact ⟨rfl, Below.refl _ _⟩
set_option maxHeartbeats 8000000 in
set_option maxRecDepth 100000 in
theorem loose_calls (n : Int) (w : World) : Calls Try.prog 19 #[.int .i64 n] w fun e w' => ∃ (f : Nat) (lt : Int → Int → Bool), e = .returned (.func (.func f) #[] #[]) ∧ Less f lt ∧ Below w.heap.size w w' := by
  obtain ⟨k, hkf, hk0, hk1⟩ := pick_ok n 4 (by decide) (by decide)
  have HKF := Aside0.mk hkf
  clear hkf
  go_enter Try.func19, Try.ntmps19
  go_wp2_with fail
  refine (cabstandlaw07_pick.calls n 4 k _ HKF.out).mono ?_
  rintro e w1 ⟨rfl, nq, rfl⟩
  have hb : Below w.heap.size w (w.drewN nq) := pw_below_drewN (Below.refl _ _) nq
  have HB := Aside0.mk hb
  clear hb
  have hcase : k = 0 ∨ k = 1 ∨ k = 2 ∨ k = 3 := by omega
  clear hk0 hk1
  rcases hcase with rfl | rfl | rfl | rfl
  · go_wp2
    go_ret
    exact ⟨_, _, rfl, less_lo1, HB.out⟩
  · go_wp2
    go_ret
    exact ⟨_, _, rfl, less_lo2, HB.out⟩
  · go_wp2
    go_ret
    exact ⟨_, _, rfl, less_lo3, HB.out⟩
  · go_wp2
    go_ret
    exact ⟨_, _, rfl, less_lo4, HB.out⟩
end Go.Proofs.Ytibipbfmhbkpiaa.HeapII
