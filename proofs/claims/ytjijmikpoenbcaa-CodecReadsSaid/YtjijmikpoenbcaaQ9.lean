/- What functions of the program answer, each by a Lean function and the proof of its call; written by this session's program gp.py and by hand. Conditions: those that stand in each theorem. -/
import Derived.Test.YtjijmikpoenbcaaCodecT
import Derived.Test.YtjijmikpoenbcaaQ0
import Derived.Test.YtjijmikpoenbcaaQ3
import Derived.Test.YtjijmikpoenbcaaQ8
namespace Go.Proofs.Ytjijmikpoenbcaa.Q
open Go.RowKit Go.Proofs.YtjijmikpoenbcaaW.PrintWords Go.Proofs.YtjijmikpoenbcaaW.PrintLast Go.Proofs.YtjijmikpoenbcaaW.PrintMore
attribute [local go_sem] max2_int min2_int max_two min_two max_three min_three max_four min_four   -- for this text's walks alone
set_option linter.unusedVariables false
set_option linter.unusedSimpArgs false

/-! ### cabstandlaw02_CodecNames: function 7 -/
section
open Go.Proofs.Ytjijmikpoenbcaa.Codec
set_option maxHeartbeats 8000000 in
set_option maxRecDepth 100000 in
theorem names_walk (w : World) : Calls Try.prog 7 #[] w fun e w' => e = .returned (.bool true) ∧ Below w.heap.size w w' := by
  go_enter Try.func7, Try.ntmps7
  go_wp2_with fail
  refine (NewWriter_calls w).mono ?_
  rintro e w1 ⟨rfl, h, hb⟩
  have HW := Aside0.mk h
  have HB := Aside0.mk hb
  have HL := Aside0.mk hb.size
  clear h hb
  go_wp2_with fail
  refine (wVar_calls w.heap.size w.heap.size _ _ 18446744073709551615 w1 HW.out HL.out (by decide) (by decide)).mono ?_
  rintro e w2 ⟨rfl, v2, h1, h2, h3⟩
  have HW2 := Aside0.mk h1
  have HB2 : Aside0 (Below w.heap.size w w2) := ⟨((Chg.of_below (F := fun _ => False) HB.out).then h3 (fun i hi => Or.inr ((HW.out.lt i hi).1))).below (Nat.le_refl _) (fun _ h => h.elim)⟩
  clear h1 h2 h3
  go_wp2_with fail
  refine (wPoint_calls w.heap.size w.heap.size _ _ 1 (-2) w2 HW2.out HB2.out.size (by decide +kernel)).mono ?_
  rintro e w3 ⟨rfl, v3, h1, h2, h3⟩
  have HW3 := Aside0.mk h1
  have HB3 : Aside0 (Below w.heap.size w w3) := ⟨((Chg.of_below (F := fun _ => False) HB2.out).then h3 (fun i hi => Or.inr ((HW2.out.lt i hi).1))).below (Nat.le_refl _) (fun _ h => h.elim)⟩
  clear h1 h2 h3
  have e3 : [] ++ varB 18446744073709551615 ++ pointB 1 (-2) = [255, 255, 255, 255, 255, 255, 255, 255, 255, 1, 0, 1, 255, 254] := by decide +kernel
  rw [e3] at HW3
  clear e3 HW HW2 HB HB2
  go_wp2_with fail
  have HS3 := Aside0.mk HB3.out.size
  refine (NewReader_calls (some ⟨w3.heap.size, 0, none⟩) 4 [2, 97, 98, 7] _ (bytes_at (blk_new w3 _) (by decide)) (by decide)).mono ?_
  rintro e w4 ⟨g, rfl, h1, h2⟩
  have HB4 : Aside0 (Below w.heap.size w w4) := ⟨below_then (below_alloc HB3.out _) (by have := HB3.out.size; rw [World.size_alloc]; omega) h2⟩
  have HW4 := Aside0.mk ((HW3.out.below (below_new w3 _)).below h2)
  have HR4 := Aside0.mk h1
  have HG4 : Aside0 (w3.heap.size < (w3.alloc (.cells (nums .u8 [2, 97, 98, 7]).toArray 5)).heap.size ∧ w.heap.size ≤ w3.heap.size) := ⟨by rw [World.size_alloc]; omega, HS3.out⟩
  have HWL : Aside0 (∀ k, fp w.heap.size v3 k → k < w3.heap.size) := ⟨fun k hk => (HW3.out.lt k hk).2⟩
  clear h1 h2 HW3 HB3
  generalize (w3.alloc (.cells (nums .u8 [2, 97, 98, 7]).toArray 5)).heap.size = b2 at HR4 HG4
  go_wp2_with fail
  refine (rText_calls b2 g _ _ (by unfold IsBytes; decide) 0 2 (by decide) w4 HR4.out).mono ?_
  rw [show textR 2 [2, 97, 98, 7] 0 = ([97, 98], [7], 0) by decide +kernel, show strOfNums [97, 98] = ⟨#[97, 98]⟩ by decide +kernel]
  rintro e w5 ⟨rfl, v5, h1, h2, h3⟩
  have HR5 := Aside0.mk h1
  have HW5 := Aside0.mk (HW4.out.keep h3 (fun k hk q => by have q' : k = g := q; have := HWL.out k hk; have := HR4.out.ge; have := HG4.out.1; omega))
  have HB5 : Aside0 (Below w.heap.size w w5) := ⟨((Chg.of_below (F := fun _ => False) HB4.out).then h3 (fun i hi => Or.inr (by have := HR4.out.ge; have := HG4.out; omega))).below (Nat.le_refl _) (fun _ h => h.elim)⟩
  have HGE : Aside0 (b2 ≤ g) := ⟨HR4.out.ge⟩
  clear h1 h2 h3 HR4 HW4 HB4
  go_wp2_with fail
  refine (rLeft_calls b2 g _ _ 0 w5 HR5.out).mono ?_
  rintro e w6 ⟨rfl, rfl⟩
  go_wp2_with fail
  refine (rEnd_calls b2 g _ _ 0 w6 HR5.out).mono ?_
  rw [show endR [7] 0 = 20 by decide +kernel]
  rintro e w7 ⟨rfl, rfl⟩
  go_wp2_with fail
  refine (NewReader_calls (some ⟨w7.heap.size, 0, none⟩) 10 [255, 255, 255, 255, 255, 255, 255, 255, 255, 2] _ (bytes_at (blk_new w7 _) (by decide)) (by decide)).mono ?_
  rintro e w8 ⟨g2, rfl, h1, h2⟩
  have HB8 : Aside0 (Below w.heap.size w w8) := ⟨below_then (below_alloc HB5.out _) (by have := HB5.out.size; rw [World.size_alloc]; omega) h2⟩
  have HW8 := Aside0.mk ((HW5.out.below (below_new w7 _)).below h2)
  have HR8 := Aside0.mk ((HR5.out.below (below_new w7 _)).below h2)
  have HT8 := Aside0.mk h1
  have HG8 : Aside0 (w7.heap.size < (w7.alloc (.cells (nums .u8 [255, 255, 255, 255, 255, 255, 255, 255, 255, 2]).toArray 5)).heap.size) := ⟨by rw [World.size_alloc]; omega⟩
  have HWL8 : Aside0 (∀ k, fp w.heap.size v3 k ∨ rfp g v5 k → k < w7.heap.size) := ⟨fun k hk => hk.elim (fun q => (HW5.out.lt k q).2) (fun q => (HR5.out.lt k q).2)⟩
  have HS7 : Aside0 (w.heap.size ≤ w7.heap.size) := ⟨HB5.out.size⟩
  clear h1 h2 HR5 HW5 HB5
  generalize (w7.alloc (.cells (nums .u8 [255, 255, 255, 255, 255, 255, 255, 255, 255, 2]).toArray 5)).heap.size = b3 at HT8 HG8
  go_wp2_with fail
  refine (rVar_calls b3 g2 _ _ (by unfold IsBytes; decide) 0 w8 HT8.out).mono ?_
  rw [show varR [255, 255, 255, 255, 255, 255, 255, 255, 255, 2] 0 = (0, [], 21) by decide +kernel]
  rintro e w9 ⟨rfl, v9, h1, h2, h3⟩
  have HT9 := Aside0.mk h1
  have HNE : Aside0 (∀ k, fp w.heap.size v3 k ∨ rfp g v5 k → k ≠ g2) := ⟨fun k hk => by have := HWL8.out k hk; have := HT8.out.ge; have := HG8.out; omega⟩
  have HW9 := Aside0.mk (HW8.out.keep h3 (fun k hk q => HNE.out k (Or.inl hk) q))
  have HR9 := Aside0.mk (HR8.out.keep h3 (fun k hk q => HNE.out k (Or.inr hk) q))
  have HB9 : Aside0 (Below w.heap.size w w9) := ⟨((Chg.of_below (F := fun _ => False) HB8.out).then h3 (fun i hi => Or.inr (by have := HT8.out.ge; have := HG8.out; have := HS7.out; omega))).below (Nat.le_refl _) (fun _ h => h.elim)⟩
  have HTN : Aside0 (∀ k, rfp g2 v9 k → k ≠ g) := ⟨fun k hk => by have := (HT9.out.lt k hk).1; have := HWL8.out g (Or.inr (Or.inl rfl)); have := HG8.out; omega⟩
  clear h1 h2 h3 HR8 HW8 HB8 HT8
  go_wp2_with fail
  refine (cabstandlaw02_lives.calls true w9 rfl).mono ?_
  rintro e w10 ⟨rfl, hb⟩
  have HW10 := Aside0.mk (HW9.out.below hb)
  have HR10 := Aside0.mk (HR9.out.below hb)
  have HT10 := Aside0.mk (HT9.out.below hb)
  have HB10 : Aside0 (Below w.heap.size w w10) := ⟨below_then HB9.out HB9.out.size hb⟩
  clear hb HW9 HR9 HT9 HB9
  go_wp2_with fail
  refine (wBytes_calls w.heap.size w.heap.size _ _ w10 HW10.out (by decide)).mono ?_
  rintro e w11 ⟨rfl, h1, hb⟩
  have HY := Aside0.mk h1
  have HR11 := Aside0.mk (HR10.out.below hb)
  have HT11 := Aside0.mk (HT10.out.below hb)
  have HB11 : Aside0 (Below w.heap.size w w11) := ⟨below_then HB10.out HB10.out.size hb⟩
  clear hb h1 HW10 HR10 HT10 HB10
  go_wp2_with fail
  refine (same_calls (some ⟨w10.heap.size, 0, none⟩) 14 [255, 255, 255, 255, 255, 255, 255, 255, 255, 1, 0, 1, 255, 254] (some ⟨w11.heap.size, 0, none⟩) 14 [255, 255, 255, 255, 255, 255, 255, 255, 255, 1, 0, 1, 255, 254] _ (bytes_at (blk_alloc HY.out _) (by decide)) (by decide) (bytes_at (blk_new w11 _) (by decide)) (by decide)).mono ?_
  rintro e w12 ⟨rfl, hb⟩
  rw [decide_eq_true rfl]
  have HR12 := Aside0.mk ((HR11.out.below (below_new w11 _)).below hb)
  have HT12 := Aside0.mk ((HT11.out.below (below_new w11 _)).below hb)
  have HB12 : Aside0 (Below w.heap.size w w12) := ⟨below_then (below_alloc HB11.out _) (by have := HB11.out.size; rw [World.size_alloc]; omega) hb⟩
  clear hb HR11 HT11 HB11
  go_wp2_with fail
  refine (rByte_calls b2 g _ _ 0 w12 HR12.out).mono ?_
  rw [show byteR [7] 0 = (7, [], 0) by decide +kernel]
  rintro e w13 ⟨rfl, v13, h1, h2, h3⟩
  have HR13 := Aside0.mk h1
  have HT13 := Aside0.mk (HT12.out.keep h3 (fun k hk q => HTN.out k hk q))
  have HB13 : Aside0 (Below w.heap.size w w13) := ⟨((Chg.of_below (F := fun _ => False) HB12.out).then h3 (fun i hi => Or.inr (by have := HGE.out; have := HG4.out; omega))).below (Nat.le_refl _) (fun _ h => h.elim)⟩
  clear h1 h2 h3 HR12 HT12 HB12
  go_wp2_with fail
  refine (rEnd_calls b2 g _ _ 0 w13 HR13.out).mono ?_
  rw [show endR [] 0 = 0 by decide +kernel]
  rintro e w14 ⟨rfl, rfl⟩
  go_wp2_with fail
  refine (rEnd_calls b3 g2 _ _ 21 w14 HT13.out).mono ?_
  rw [show endR [] 21 = 21 by decide +kernel]
  rintro e w15 ⟨rfl, rfl⟩
  go_wp2_with fail
  refine (rEnd_nil w15).mono ?_
  rintro e w16 ⟨rfl, rfl⟩
  go_wp2_with fail
  refine (wFixed_nil 0 0 w16).mono ?_
  rintro e w17 ⟨rfl, rfl⟩
  go_wp2
  go_ret
  exact ⟨rfl, HB13.out⟩
end
def cabstandlaw02_CodecNames.f : Option Bool := some true
theorem cabstandlaw02_CodecNames.calls (r : Bool) (w : World) (h : cabstandlaw02_CodecNames.f = some r) : Calls Try.prog 7 #[] w fun e w' => e = .returned (.bool r) ∧ Below w.heap.size w w' := by
  obtain rfl : true = r := Option.some.inj h
  exact names_walk w

end Go.Proofs.Ytjijmikpoenbcaa.Q
