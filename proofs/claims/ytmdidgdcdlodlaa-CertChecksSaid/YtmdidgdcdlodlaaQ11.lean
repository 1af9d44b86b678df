/- What functions of the program answer, each by a Lean function and the proof of its call; written by this session's program gp.py and by hand. Conditions: those that stand in each theorem. -/
import Derived.Test.YtmdidgdcdlodlaaQ0
import Derived.Test.YtmdidgdcdlodlaaQ3
import Derived.Test.YtmdidgdcdlodlaaQ6
import Derived.Test.YtmdidgdcdlodlaaQ9
import Derived.Test.YtmdidgdcdlodlaaQ10
namespace Go.Proofs.Ytmdidgdcdlodlaa.Q
open Go.RowKit Go.Proofs.YtmdidgdcdlodlaaW.PrintWords Go.Proofs.YtmdidgdcdlodlaaW.PrintLast Go.Proofs.YtmdidgdcdlodlaaW.PrintMore
attribute [local go_sem] max2_int min2_int max_two min_two max_three min_three max_four min_four   -- for this text's walks alone
set_option linter.unusedVariables false
set_option linter.unusedSimpArgs false

/-! ### cert_Bound: function 23 -/
theorem all_lt3 {P : Nat → Prop} (h0 : P 0) (h1 : P 1) (h2 : P 2) : ∀ i, i < 3 → P i := fun i hi => by
  match i, hi with
  | 0, _ => exact h0
  | 1, _ => exact h1
  | 2, _ => exact h2
theorem blk_mid2 (w : World) (o1 o2 o3 : Obj) : (((w.alloc o1).alloc o2).alloc o3).heap[w.heap.size + 1]? = some o2 := blk_alloc (blk_new1 w o1 o2) o3
def boundC (R C : Int) (es : List S69) (ys zs : List Int) : Int × Int :=
  if firstOf [weighC R C es, lengthsC R C ys zs, dualC es ys zs] = 0 then (if (clsum ys zs).2 then ((clsum ys zs).1, 0) else (0, 3)) else (0, firstOf [weighC R C es, lengthsC R C ys zs, dualC es ys zs])
def cert_Bound.f (R C : Int) (es : List S69) (ys zs : List Int) : Option (Int × Int) := if Fits es [] ys zs then some (boundC R C es ys zs) else none
theorem ret_pair2 {a b p q : Int} (h : (a, p) = (b, q)) : Ending.returned (.tuple #[.int .i64 a, .int .i64 p]) = .returned (.tuple #[.int .i64 b, .int .i64 q]) := by cases h; rfl
theorem firstOf3 {a b c : Int} (h : firstOf [a, b, c] = 0) : a = 0 ∧ b = 0 ∧ c = 0 := by
  simp only [firstOf] at h
  by_cases ha : a = 0
  · by_cases hb : b = 0
    · by_cases hc : c = 0
      · exact ⟨ha, hb, hc⟩
      · simp [ha, hb, hc] at h
    · simp [ha, hb] at h
  · simp [ha] at h
set_option maxHeartbeats 8000000 in
set_option maxRecDepth 100000 in
theorem cert_Bound.calls (a0_0 : Int) (a0_1 : Int) (A0_2 : Option Addr) (c0_2 : Nat) (l0_2 : List (S69)) (A1 : Option Addr) (c1 : Nat) (l1 : List Int) (A2 : Option Addr) (c2 : Nat) (l2 : List Int) (r1 : Int) (r2 : Int) (w : World)
    (hr0_2 : Kd.C k69 w A0_2 l0_2.length l0_2) (hc0_2 : l0_2.length ≤ c0_2) (hr1 : Kd.C (Kd.int .i64) w A1 l1.length l1) (hc1 : l1.length ≤ c1) (hr2 : Kd.C (Kd.int .i64) w A2 l2.length l2) (hc2 : l2.length ≤ c2)
    (h : cert_Bound.f a0_0 a0_1 l0_2 l1 l2 = some (r1, r2)) :
    Calls Try.prog 23 #[.agg #[.int .i64 a0_0, .int .i64 a0_1, .slice A0_2 l0_2.length c0_2], .slice A1 l1.length c1, .slice A2 l2.length c2] w fun e w' => e = .returned (.tuple #[.int .i64 r1, .int .i64 r2]) ∧ Below w.heap.size w w' := by
  unfold cert_Bound.f at h
  split at h
  case isFalse => cases h
  case isTrue hf =>
  have H := Aside0.mk (Option.some.inj h)
  have HF := Aside0.mk hf
  have HR0 := Aside0.mk hr0_2
  have HC0 := Aside0.mk hc0_2
  have HR1 := Aside0.mk hr1
  have HC1 := Aside0.mk hc1
  have HR2 := Aside0.mk hr2
  have HC2 := Aside0.mk hc2
  have HL : Aside0 (∀ w', Below w.heap.size w w' → _) := ⟨fun w' hb => look_graph a0_0 a0_1 A0_2 c0_2 l0_2 none 0 [] A1 c1 l1 A2 c2 l2 w' (Kd.C_below hr0_2 hb) hc0_2 (Kd.C_nil _ _) (Nat.le_refl _) (Kd.C_below hr1 hb) hc1 (Kd.C_below hr2 hb) hc2 hf⟩
  clear h hr0_2 hc0_2 hr1 hc1 hr2 hc2 hf
  go_enter Try.func23, Try.ntmps23
  go_wp2_with fail
  have hB := below3 w (.cells #[.int .i64 a0_0, .int .i64 a0_1, .slice A0_2 l0_2.length c0_2] 24) (.cells (clm a0_0 a0_1 A0_2 c0_2 l0_2 none 0 [] A1 c1 l1 A2 c2 l2) 55)
    (.cells #[.func (.func 31) #[.agg (clm a0_0 a0_1 A0_2 c0_2 l0_2 none 0 [] A1 c1 l1 A2 c2 l2)] #[], .func (.func 33) #[.agg (clm a0_0 a0_1 A0_2 c0_2 l0_2 none 0 [] A1 c1 l1 A2 c2 l2)] #[], .func (.func 34) #[.agg (clm a0_0 a0_1 A0_2 c0_2 l0_2 none 0 [] A1 c1 l1 A2 c2 l2)] #[]] 57)
  have HB := Aside0.mk hB
  clear hB
  have hn := blk_new2 w (.cells #[.int .i64 a0_0, .int .i64 a0_1, .slice A0_2 l0_2.length c0_2] 24) (.cells (clm a0_0 a0_1 A0_2 c0_2 l0_2 none 0 [] A1 c1 l1 A2 c2 l2) 55)
    (.cells #[.func (.func 31) #[.agg (clm a0_0 a0_1 A0_2 c0_2 l0_2 none 0 [] A1 c1 l1 A2 c2 l2)] #[], .func (.func 33) #[.agg (clm a0_0 a0_1 A0_2 c0_2 l0_2 none 0 [] A1 c1 l1 A2 c2 l2)] #[], .func (.func 34) #[.agg (clm a0_0 a0_1 A0_2 c0_2 l0_2 none 0 [] A1 c1 l1 A2 c2 l2)] #[]] 57)
  have hm := blk_mid2 w (.cells #[.int .i64 a0_0, .int .i64 a0_1, .slice A0_2 l0_2.length c0_2] 24) (.cells (clm a0_0 a0_1 A0_2 c0_2 l0_2 none 0 [] A1 c1 l1 A2 c2 l2) 55)
    (.cells #[.func (.func 31) #[.agg (clm a0_0 a0_1 A0_2 c0_2 l0_2 none 0 [] A1 c1 l1 A2 c2 l2)] #[], .func (.func 33) #[.agg (clm a0_0 a0_1 A0_2 c0_2 l0_2 none 0 [] A1 c1 l1 A2 c2 l2)] #[], .func (.func 34) #[.agg (clm a0_0 a0_1 A0_2 c0_2 l0_2 none 0 [] A1 c1 l1 A2 c2 l2)] #[]] 57)
  have HN := Aside0.mk hn
  have HM := Aside0.mk hm
  clear hn hm
  refine (first_calls [31, 33, 34] [weighC a0_0 a0_1 l0_2, lengthsC a0_0 a0_1 l1 l2, dualC l0_2 l1 l2] (.agg (clm a0_0 a0_1 A0_2 c0_2 l0_2 none 0 [] A1 c1 l1 A2 c2 l2)) (w.heap.size + 1 + 1) _ rfl (by decide)
    (all_lt3 ((blk_cell HN.out 0).trans rfl) ((blk_cell HN.out 1).trans rfl) ((blk_cell HN.out 2).trans rfl))
    (all_lt3 (fun w' => cf31 _ w') (fun w' => cf33 _ w') (fun w' => cf34 _ w'))
    (all_lt3 (fun _ w' hb => (HL.out w' (below_then HB.out HB.out.size hb)).1) (fun hz w' hb => (HL.out w' (below_then HB.out HB.out.size hb)).2.2.1)
      (fun hz w' hb => (HL.out w' (below_then HB.out HB.out.size hb)).2.2.2.1 (hz 0 (by decide)) (hz 1 (by decide))))).mono ?_
  rintro e w1 ⟨rfl, hb⟩
  have HB1 := Aside0.mk (below_then HB.out HB.out.size hb)
  have BM := Aside0.mk (blk_below HM.out hb)
  clear hb HB HN HM
  obtain ⟨f, hf⟩ : ∃ f, f = firstOf [weighC a0_0 a0_1 l0_2, lengthsC a0_0 a0_1 l1 l2, dualC l0_2 l1 l2] := ⟨_, rfl⟩
  rw [← hf]
  have HFE := Aside0.mk hf
  clear hf
  by_cases h0 : f = 0
  · subst h0
    obtain ⟨z1, z2, z3⟩ := firstOf3 HFE.out.symm
    have hs := sum_is a0_0 a0_1 HF.out (show holdB l0_2 l1 l2 = true by unfold dualC at z3; split at z3; assumption; cases z3)
    have HS := Aside0.mk hs
    clear hs z1 z2 z3
    obtain ⟨n, t, hnt⟩ : ∃ n t, clsum l1 l2 = (n, t) := ⟨_, _, rfl⟩
    have HNT := Aside0.mk hnt
    clear hnt
    have cc0 : w1.cell? ⟨w.heap.size + 1, 0, none⟩ = some (.int .i64 a0_0) := (blk_cell BM.out 0).trans rfl
    have cc1 : w1.cell? ⟨w.heap.size + 1, 1, none⟩ = some (.int .i64 a0_1) := (blk_cell BM.out 1).trans rfl
    have cc2 : w1.cell? ⟨w.heap.size + 1, 2, none⟩ = some (.slice A0_2 l0_2.length c0_2) := (blk_cell BM.out 2).trans rfl
    have cc3 : w1.cell? ⟨w.heap.size + 1, 3, none⟩ = some (.slice none 0 0) := (blk_cell BM.out 3).trans rfl
    have cc4 : w1.cell? ⟨w.heap.size + 1, 4, none⟩ = some (.slice A1 l1.length c1) := (blk_cell BM.out 4).trans rfl
    have cc5 : w1.cell? ⟨w.heap.size + 1, 5, none⟩ = some (.slice A2 l2.length c2) := (blk_cell BM.out 5).trans rfl
    go_wp2_with fail
    refine (cert_claim_sum.calls a0_0 a0_1 _ _ l0_2 none 0 [] _ _ l1 _ _ l2 n t _ (Kd.C_below HR0.out HB1.out) HC0.out (Kd.C_nil _ _) (Nat.le_refl _) (Kd.C_below HR1.out HB1.out) HC1.out (Kd.C_below HR2.out HB1.out) HC2.out (by rw [HS.out, HNT.out])).mono ?_
    rintro e w2 ⟨rfl, hb⟩
    have HB2 := Aside0.mk (below_then HB1.out HB1.out.size hb)
    clear hb cc0 cc1 cc2 cc3 cc4 cc5
    cases t with
    | true =>
      go_wp2
      go_ret2
      refine ⟨ret_pair2 ?_, HB2.out⟩
      rw [← H.out, boundC, ← HFE.out, HNT.out]
      rfl
    | false =>
      go_wp2
      go_ret2
      refine ⟨ret_pair2 ?_, HB2.out⟩
      rw [← H.out, boundC, ← HFE.out, HNT.out]
      rfl
  · have h1 : (f == 0) = false := beq_eq_false_iff_ne.2 h0
    have h2 : (f != 0) = true := bne_iff_ne.2 h0
    have H0 := Aside0.mk h0
    clear h0
    go_wp2
    go_ret2
    refine ⟨ret_pair2 ?_, HB1.out⟩
    rw [← H.out, boundC, ← HFE.out, if_neg H0.out]

end Go.Proofs.Ytmdidgdcdlodlaa.Q
