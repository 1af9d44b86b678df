/- What functions of the program answer, each by a Lean function and the proof of its call; written by this session's program gp.py and by hand. Conditions: those that stand in each theorem. -/
import Derived.Lib.SlBytesConst
import Derived.Test.YtjijmikpoenbcaaCodecS
import Derived.Test.YtjijmikpoenbcaaQ0
import Derived.Test.YtjijmikpoenbcaaQ2
namespace Go.Proofs.Ytjijmikpoenbcaa.Q
open Go.RowKit Go.Proofs.YtjijmikpoenbcaaW.PrintWords Go.Proofs.YtjijmikpoenbcaaW.PrintLast Go.Proofs.YtjijmikpoenbcaaW.PrintMore
attribute [local go_sem] max2_int min2_int max_two min_two max_three min_three max_four min_four   -- for this text's walks alone
set_option linter.unusedVariables false
set_option linter.unusedSimpArgs false

/-! ### cabstandlaw02_lives: function 17 -/
theorem bytes_at_fr {w : World} {g : Nat} {l : List Int} {fr : Nat × Nat} (h : w.heap[g]? = some (.cells (nums .u8 l).toArray 5 fr)) (hl : l.length ≤ 9223372036854775807) : Kd.C (Kd.int .u8) w (some ⟨g, 0, none⟩) l.length l := by
  refine ⟨rfl, hl, fun _ => ⟨_, rfl, fun j p hj => ⟨[.int .u8 p], rfl, rfl, fun i u hu => ?_⟩⟩⟩
  match i, hu with
  | 0, hu =>
    simp at hu
    subst hu
    rw [add_plain, cell_of_row w g _ _ 5 fr h]
    have : j * (Kd.int .u8).sz + 0 = j := by show j * 1 + 0 = j; omega
    rw [this]
    simp [nums, hj]
def cabstandlaw02_lives.f : Option Bool := some true
open Go.Proofs.Ytjijmikpoenbcaa.Codec in
set_option maxHeartbeats 8000000 in
set_option maxRecDepth 100000 in
theorem cabstandlaw02_lives.calls (r : Bool) (w : World) (h : cabstandlaw02_lives.f = some r) : Calls Try.prog 17 #[] w fun e w' => e = .returned (.bool r) ∧ Below w.heap.size w w' := by
  obtain rfl : true = r := Option.some.inj h
  clear h
  have hcv := fun (w : World) (C : Array Value) (n c : Nat) => Lib.run_convert_bytes_const (P := Try.prog) w 22 5 C n c Try.underlying22 Try.underlying5
  go_enter Try.func17, Try.ntmps17
  go_wp2_with fail
  refine (NewWriter_calls w).mono ?_
  rintro e w1 ⟨rfl, h, hb⟩
  have HW := Aside0.mk h
  have HB := Aside0.mk hb
  have HL := Aside0.mk hb.size
  clear h hb
  go_wp2_with fail
  refine (wVar_calls w.heap.size w.heap.size _ _ 300 w1 HW.out HL.out (by decide) (by decide)).mono ?_
  rintro e w2 ⟨rfl, v2, h1, h2, h3⟩
  have HW2 := Aside0.mk h1
  have HB2 : Aside0 (Below w.heap.size w w2) := ⟨((Chg.of_below (F := fun _ => False) HB.out).then h3 (fun i hi => Or.inr ((HW.out.lt i hi).1))).below (Nat.le_refl _) (fun _ h => h.elim)⟩
  clear h1 h2 h3
  go_wp2_with fail
  refine (wInt_calls w.heap.size w.heap.size _ _ (-1) w2 HW2.out HB2.out.size (by decide) (by decide +kernel)).mono ?_
  rintro e w3 ⟨rfl, v3, h1, h2, h3⟩
  have HW3 := Aside0.mk h1
  have HB3 : Aside0 (Below w.heap.size w w3) := ⟨((Chg.of_below (F := fun _ => False) HB2.out).then h3 (fun i hi => Or.inr ((HW2.out.lt i hi).1))).below (Nat.le_refl _) (fun _ h => h.elim)⟩
  clear h1 h2 h3
  go_wp2_with fail
  refine (wFixed_wide w.heap.size w.heap.size _ _ 256 1 w3 HW3.out (by decide) (by decide +kernel)).mono ?_
  rintro e w4 ⟨rfl, rfl⟩
  go_wp2_with fail
  refine (wFixed_calls w.heap.size w.heap.size _ _ 258 2 w4 HW3.out HB3.out.size (by decide) (by decide) (by decide +kernel) (by decide +kernel)).mono ?_
  rintro e w5 ⟨rfl, v5, h1, h2, h3⟩
  have HW5 := Aside0.mk h1
  have HB5 : Aside0 (Below w.heap.size w w5) := ⟨((Chg.of_below (F := fun _ => False) HB3.out).then h3 (fun i hi => Or.inr ((HW3.out.lt i hi).1))).below (Nat.le_refl _) (fun _ h => h.elim)⟩
  clear h1 h2 h3
  have e5 : [] ++ varB 300 ++ varB (turned (-1)) ++ fixedB (Int.toNat 2) 258 = [172, 2, 1, 1, 2] := by decide +kernel
  rw [e5] at HW5
  clear e5
  go_wp2_with fail
  refine (wBytes_calls w.heap.size w.heap.size _ _ w5 HW5.out (by decide)).mono ?_
  rintro e w6 ⟨rfl, h1, h2⟩
  have HY := Aside0.mk h1
  have HB6 : Aside0 (Below w.heap.size w w6) := ⟨below_then HB5.out HB5.out.size h2⟩
  have HS5 := Aside0.mk HB5.out.size
  clear h1 h2
  go_wp2_with fail
  refine (NewReader_calls (some ⟨w6.heap.size, 0, none⟩) 6 [172, 2, 1, 1, 2, 9] _ (bytes_at (blk_new w6 _) (by decide)) (by decide)).mono ?_
  rintro e w7 ⟨g, rfl, h1, h2⟩
  have HB7 : Aside0 (Below w.heap.size w w7) := ⟨below_then (below_alloc HB6.out _) (by have := HB6.out.size; rw [World.size_alloc]; omega) h2⟩
  rw [World.size_alloc] at h1 h2
  have HR := Aside0.mk h1
  have HY7 : Aside0 (w7.heap[w5.heap.size]? = some (Obj.cells (nums IntKind.u8 [172, 2, 1, 1, 2]).toArray 5 (0, 0))) := ⟨(h2.block _ (by have := blk_lt HY.out; omega)).trans (blk_alloc HY.out _)⟩
  have HG : Aside0 (w5.heap.size < w6.heap.size) := ⟨blk_lt HY.out⟩
  clear h1 h2
  go_wp2_with fail
  refine (rVar_calls _ g _ _ (by unfold IsBytes; decide) 0 w7 HR.out).mono ?_
  rw [show varR [172, 2, 1, 1, 2, 9] 0 = (300, [1, 1, 2, 9], 0) by decide +kernel]
  rintro e w8 ⟨rfl, v8, h1, h2, h3⟩
  have HR8 := Aside0.mk h1
  have HC8 := Aside0.mk h3
  clear h1 h2 h3
  go_wp2_with fail
  refine (rInt_calls _ g _ _ (by unfold IsBytes; decide) 0 w8 HR8.out).mono ?_
  rw [show varR [1, 1, 2, 9] 0 = (1, [1, 2, 9], 0) by decide +kernel, show backI 1 = -1 by decide +kernel]
  rintro e w9 ⟨rfl, v9, h1, h2, h3⟩
  have HR9 := Aside0.mk h1
  have HC9 := Aside0.mk (HC8.out.trans h3)
  clear h1 h2 h3 HC8
  go_wp2_with fail
  refine (rFixed_calls _ g _ _ (by unfold IsBytes; decide) 0 2 w9 HR9.out).mono ?_
  rw [show fixedR 2 [1, 2, 9] 0 = (258, [9], 0) by decide +kernel]
  rintro e w10 ⟨rfl, v10, h1, h2, h3⟩
  have HR10 := Aside0.mk h1
  have HC10 := Aside0.mk (HC9.out.trans h3)
  have HB10 : Aside0 (Below w.heap.size w w10) := ⟨((Chg.of_below (F := fun _ => False) HB7.out).then HC10.out (fun i hi => Or.inr (by have := HR.out.ge; have := HG.out; have := HS5.out; omega))).below (Nat.le_refl _) (fun _ h => h.elim)⟩
  have HY10 : Aside0 (w10.heap[w5.heap.size]? = some (Obj.cells (nums IntKind.u8 [172, 2, 1, 1, 2]).toArray 5 (0, 0))) := ⟨HC10.out.heap HY7.out (by have := HR.out.ge; have := HG.out; omega)⟩
  clear h1 h2 h3 HC9
  go_wp2_with fail
  refine (cabstandlaw02_same.calls 10 (some ⟨w5.heap.size, 0, none⟩) 5 [172, 2, 1, 1, 2] (some ⟨w10.heap.size, 0, none⟩) 5 [172, 2, 1, 1, 2] true _ (bytes_at (blk_alloc HY10.out _) (by decide)) (by decide) (bytes_at (blk_new w10 _) (by decide)) (by decide) (by decide +kernel)).mono ?_
  rintro e w11 ⟨rfl, hd⟩
  have hb : Below (w10.alloc (.cells (nums .u8 [172, 2, 1, 1, 2]).toArray 5)).heap.size (w10.alloc (.cells (nums .u8 [172, 2, 1, 1, 2]).toArray 5)) w11 := by obtain ⟨n, rfl⟩ := hd; exact pw_below_drewN (Below.refl _ _) _
  have HR11 := Aside0.mk (HR10.out.keep (F := fun _ => False) ((Chg.alloc (Chg.refl _ _) _).trans (Chg.of_below hb)) (fun _ _ h => h))
  have HB11 : Aside0 (Below w.heap.size w w11) := ⟨below_then (below_alloc HB10.out _) (by have := HB10.out.size; rw [World.size_alloc]; omega) hb⟩
  clear hd hb
  go_wp2_with fail
  refine (rLeft_calls _ g _ _ 0 w11 HR11.out).mono ?_
  rintro e w12 ⟨rfl, rfl⟩
  go_wp2_with fail
  refine (rEnd_calls _ g _ _ 0 w12 HR11.out).mono ?_
  rw [show endR [9] 0 = 20 by decide +kernel]
  rintro e w13 ⟨rfl, rfl⟩
  go_wp2_with fail
  refine (Sum_calls (some ⟨w13.heap.size, 0, none⟩) 9 [49, 50, 51, 52, 53, 54, 55, 56, 57] (by unfold IsBytes; decide) _ (bytes_at_fr (blk_new w13 _) (by decide))).mono ?_
  rw [show ((sumN [49, 50, 51, 52, 53, 54, 55, 56, 57] : Nat) : Int) = 3421780262 by decide +kernel]
  rintro e w14 ⟨rfl, hb⟩
  have HB14 : Aside0 (Below w.heap.size w w14) := ⟨below_then (below_alloc HB11.out _) (by have := HB11.out.size; rw [World.size_alloc]; omega) hb⟩
  clear hb
  go_wp2
  go_ret
  exact ⟨rfl, HB14.out⟩

end Go.Proofs.Ytjijmikpoenbcaa.Q
