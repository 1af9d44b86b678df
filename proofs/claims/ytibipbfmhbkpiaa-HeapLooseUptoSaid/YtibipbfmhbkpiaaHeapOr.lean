/- The orders of the statements about heaps, as functions of the program. Conditions: those that stand in each theorem. Written in this session. -/
import Derived.Test.YtibipbfmhbkpiaaHeapIID
import Derived.Test.YtibipbfmhbkpiaaQ1
namespace Go.Proofs.Ytibipbfmhbkpiaa.HeapII
open Go.RowKit Go.Proofs.YtibipbfmhbkpiaaW.PrintWords Go.Proofs.YtibipbfmhbkpiaaW.PrintLast Go.Proofs.YtibipbfmhbkpiaaW.PrintMore Go.Proofs.Ytibipbfmhbkpiaa.HeapW Go.Proofs.Ytibipbfmhbkpiaa.HeapP Go.Proofs.Ytibipbfmhbkpiaa.MapAt Go.Proofs.Ytibipbfmhbkpiaa.Q
set_option linter.unusedVariables false
set_option linter.unusedSimpArgs false
theorem swo_key (k : Int → Int) : Swo (fun a b : Int => decide (k a < k b)) := ⟨fun a b h => by simp at *; omega, fun a b c h => by simp at *; omega⟩
/-- the order of the number n -/
def ordK (n : Int) (a b : Int) : Bool := if n = 0 then decide (a < b) else if n = 1 then decide (b < a) else if n = 2 then decide (wrap64 (Int.tdiv a 10) < wrap64 (Int.tdiv b 10)) else if n = 3 then decide (Int.tmod a 3 < Int.tmod b 3) else false
theorem swo_ord (n : Int) : Swo (ordK n) := by
  unfold ordK
  by_cases h0 : n = 0
  · simp only [h0, if_true]; exact swo_key id
  by_cases h1 : n = 1
  · subst h1; simp only [show ¬ (1 : Int) = 0 by decide, if_false, if_true]
    exact ⟨fun a b h => by simp at *; omega, fun a b c h => by simp at *; omega⟩
  by_cases h2 : n = 2
  · subst h2; simp only [show ¬ (2 : Int) = 0 by decide, show ¬ (2 : Int) = 1 by decide, if_false, if_true]; exact swo_key (fun a => wrap64 (Int.tdiv a 10))
  by_cases h3 : n = 3
  · subst h3; simp only [show ¬ (3 : Int) = 0 by decide, show ¬ (3 : Int) = 1 by decide, show ¬ (3 : Int) = 2 by decide, if_false, if_true]; exact swo_key (Int.tmod · 3)
  · simp only [h0, h1, h2, h3, if_false]; exact ⟨fun a b h => by simp at h, fun a b c h => by simp at h⟩
set_option maxHeartbeats 800000 in
theorem less_ord0 : Less 41 (ordK 0) where
  fn := ⟨Try.f41, Try.func41, by kernel_rfl, by kernel_rfl⟩
  calls a b w := by
    go_enter Try.func41, Try.ntmps41
    go_wp2
    go_ret
    exact ⟨rfl, Below.refl _ _⟩
set_option maxHeartbeats 800000 in
theorem less_ord1 : Less 42 (ordK 1) where
  fn := ⟨Try.f42, Try.func42, by kernel_rfl, by kernel_rfl⟩
  calls a b w := by
    go_enter Try.func42, Try.ntmps42
    go_wp2
    go_ret
    exact ⟨rfl, Below.refl _ _⟩
set_option maxHeartbeats 800000 in
theorem less_ord2 : Less 43 (ordK 2) where
  fn := ⟨Try.f43, Try.func43, by kernel_rfl, by kernel_rfl⟩
  calls a b w := by
    go_enter Try.func43, Try.ntmps43
    go_wp2
    go_ret
    exact ⟨rfl, Below.refl _ _⟩
set_option maxHeartbeats 800000 in
theorem less_ord3 : Less 44 (ordK 3) where
  fn := ⟨Try.f44, Try.func44, by kernel_rfl, by kernel_rfl⟩
  calls a b w := by
    go_enter Try.func44, Try.ntmps44
    go_wp2
    go_ret
    exact ⟨rfl, Below.refl _ _⟩
set_option maxHeartbeats 800000 in
theorem less_ord4 : Less 45 (ordK 4) where
  fn := ⟨Try.f45, Try.func45, by kernel_rfl, by kernel_rfl⟩
  calls a b w := by
    go_enter Try.func45, Try.ntmps45
    go_wp2
    go_ret
    exact ⟨rfl, Below.refl _ _⟩
theorem pick_ok (a n : Int) (hn : 0 < n) (hn2 : n ≤ 9223372036854775807) : ∃ t, cabstandlaw07_pick.f a n = some t ∧ 0 ≤ t ∧ t < n := by
  unfold cabstandlaw07_pick.f
  have h1 := Int.tmod_lt_of_pos a hn
  have h2 := Int.lt_tmod_of_pos a hn
  rw [if_neg (by omega)]
  by_cases h : Int.tmod a n < 0
  · rw [if_pos h]
    refine ⟨_, rfl, ?_⟩
    unfold wrap64
    omega
  · rw [if_neg h]
    exact ⟨_, rfl, by omega, h1⟩
set_option maxHeartbeats 8000000 in
set_option maxRecDepth 100000 in
theorem order_calls (n : Int) (w : World) : Calls Try.prog 11 #[.int .i64 n] w fun e w' => ∃ (f : Nat) (k : Int), e = .returned (.func (.func f) #[] #[]) ∧ cabstandlaw07_pick.f n 5 = some k ∧ Less f (ordK k) ∧ Below w.heap.size w w' := by
  obtain ⟨k, hkf, hk0, hk1⟩ := pick_ok n 5 (by decide) (by decide)
  have HKF := Aside0.mk hkf
  clear hkf
  go_enter Try.func11, Try.ntmps11
  go_wp2_with fail
  refine (cabstandlaw07_pick.calls n 5 k _ HKF.out).mono ?_
  rintro e w1 ⟨rfl, nq, rfl⟩
  have hb : Below w.heap.size w (w.drewN nq) := pw_below_drewN (Below.refl _ _) nq
  have HB := Aside0.mk hb
  clear hb
  have hcase : k = 0 ∨ k = 1 ∨ k = 2 ∨ k = 3 ∨ k = 4 := by omega
  clear hk0 hk1
  rcases hcase with rfl | rfl | rfl | rfl | rfl
  · go_wp2
    go_ret
    exact ⟨_, 0, rfl, HKF.out, less_ord0, HB.out⟩
  · go_wp2
    go_ret
    exact ⟨_, 1, rfl, HKF.out, less_ord1, HB.out⟩
  · go_wp2
    go_ret
    exact ⟨_, 2, rfl, HKF.out, less_ord2, HB.out⟩
  · go_wp2
    go_ret
    exact ⟨_, 3, rfl, HKF.out, less_ord3, HB.out⟩
  · go_wp2
    go_ret
    exact ⟨_, 4, rfl, HKF.out, less_ord4, HB.out⟩
end Go.Proofs.Ytibipbfmhbkpiaa.HeapII
