/- What functions of the program answer, each by a Lean function and the proof of its call; written by this session's program gp.py and by hand. Conditions: those that stand in each theorem. -/
import Derived.Test.YtmdidgdcdlodlaaQ0
import Derived.Test.YtmdidgdcdlodlaaQ3
import Derived.Test.YtmdidgdcdlodlaaQ6
import Derived.Test.YtmdidgdcdlodlaaQ9
namespace Go.Proofs.Ytmdidgdcdlodlaa.Q
open Go.RowKit Go.Proofs.YtmdidgdcdlodlaaW.PrintWords Go.Proofs.YtmdidgdcdlodlaaW.PrintLast Go.Proofs.YtmdidgdcdlodlaaW.PrintMore
attribute [local go_sem] max2_int min2_int max_two min_two max_three min_three max_four min_four   -- for this text's walks alone
set_option linter.unusedVariables false
set_option linter.unusedSimpArgs false

/-! ### cert_Pairs: function 19 -/
theorem all_lt2 {P : Nat → Prop} (h0 : P 0) (h1 : P 1) : ∀ i, i < 2 → P i := fun i hi => by
  match i, hi with
  | 0, _ => exact h0
  | 1, _ => exact h1
theorem blk_new2 (w : World) (o1 o2 o3 : Obj) : (((w.alloc o1).alloc o2).alloc o3).heap[w.heap.size + 1 + 1]? = some o3 := by
  have := blk_new ((w.alloc o1).alloc o2) o3
  rwa [World.size_alloc, World.size_alloc] at this
theorem below3 (w : World) (o1 o2 o3 : Obj) : Below w.heap.size w (((w.alloc o1).alloc o2).alloc o3) := below_alloc (below_alloc (below_alloc (Below.refl _ _) _) _) _
def cert_Pairs.f (R C : Int) (es : List S69) (ps : List S50) : Option Int := if Fits es ps [] [] then some (firstOf [weighC R C es, pairsC es ps]) else none
set_option maxHeartbeats 8000000 in
set_option maxRecDepth 100000 in
theorem cert_Pairs.calls (a0_0 : Int) (a0_1 : Int) (A0_2 : Option Addr) (c0_2 : Nat) (l0_2 : List (S69)) (A1 : Option Addr) (c1 : Nat) (l1 : List (S50)) (r : Int) (w : World)
    (hr0_2 : Kd.C k69 w A0_2 l0_2.length l0_2) (hc0_2 : l0_2.length ≤ c0_2) (hr1 : Kd.C k50 w A1 l1.length l1) (hc1 : l1.length ≤ c1)
    (h : cert_Pairs.f a0_0 a0_1 l0_2 l1 = some r) :
    Calls Try.prog 19 #[.agg #[.int .i64 a0_0, .int .i64 a0_1, .slice A0_2 l0_2.length c0_2], .slice A1 l1.length c1] w fun e w' => e = .returned (.int .i64 r) ∧ Below w.heap.size w w' := by
  unfold cert_Pairs.f at h
  split at h
  case isFalse => cases h
  case isTrue hf =>
  have H := Aside0.mk (Option.some.inj h)
  have HL : Aside0 (∀ w', Below w.heap.size w w' → _) := ⟨fun w' hb => look_graph a0_0 a0_1 A0_2 c0_2 l0_2 A1 c1 l1 none 0 [] none 0 [] w' (Kd.C_below hr0_2 hb) hc0_2 (Kd.C_below hr1 hb) hc1 (Kd.C_nil _ _) (Nat.le_refl _) (Kd.C_nil _ _) (Nat.le_refl _) hf⟩
  clear h hr0_2 hc0_2 hr1 hc1 hf
  go_enter Try.func19, Try.ntmps19
  go_wp2_with fail
  have hB := below3 w (.cells #[.int .i64 a0_0, .int .i64 a0_1, .slice A0_2 l0_2.length c0_2] 24) (.cells (clm a0_0 a0_1 A0_2 c0_2 l0_2 A1 c1 l1 none 0 [] none 0 []) 55)
    (.cells #[.func (.func 31) #[.agg (clm a0_0 a0_1 A0_2 c0_2 l0_2 A1 c1 l1 none 0 [] none 0 [])] #[], .func (.func 32) #[.agg (clm a0_0 a0_1 A0_2 c0_2 l0_2 A1 c1 l1 none 0 [] none 0 [])] #[]] 57)
  have HB := Aside0.mk hB
  clear hB
  have hn := blk_new2 w (.cells #[.int .i64 a0_0, .int .i64 a0_1, .slice A0_2 l0_2.length c0_2] 24) (.cells (clm a0_0 a0_1 A0_2 c0_2 l0_2 A1 c1 l1 none 0 [] none 0 []) 55)
    (.cells #[.func (.func 31) #[.agg (clm a0_0 a0_1 A0_2 c0_2 l0_2 A1 c1 l1 none 0 [] none 0 [])] #[], .func (.func 32) #[.agg (clm a0_0 a0_1 A0_2 c0_2 l0_2 A1 c1 l1 none 0 [] none 0 [])] #[]] 57)
  have HN := Aside0.mk hn
  clear hn
  refine (first_calls [31, 32] [weighC a0_0 a0_1 l0_2, pairsC l0_2 l1] (.agg (clm a0_0 a0_1 A0_2 c0_2 l0_2 A1 c1 l1 none 0 [] none 0 [])) (w.heap.size + 1 + 1) _ rfl (by decide)
    (all_lt2 ((blk_cell HN.out 0).trans rfl) ((blk_cell HN.out 1).trans rfl))
    (all_lt2 (fun w' => cf31 _ w') (fun w' => cf32 _ w'))
    (all_lt2 (fun _ w' hb => (HL.out w' (below_then HB.out HB.out.size hb)).1) (fun hz w' hb => (HL.out w' (below_then HB.out HB.out.size hb)).2.1 (hz 0 (by decide))))).mono ?_
  rintro e w1 ⟨rfl, hb⟩
  have HB1 := Aside0.mk (below_then HB.out HB.out.size hb)
  clear hb
  go_wp2
  go_ret
  exact ⟨ret_i64 H.out, HB1.out⟩

end Go.Proofs.Ytmdidgdcdlodlaa.Q
