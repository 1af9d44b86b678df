/- plane: Dist; roads: Grid. Conditions: those that stand in each theorem. Written by wip/gen/netgrid.py. -/
import Derived.Test.YtgbfhhmmkhjhhaaCPathsGw
import Derived.Test.YtgbfhhmmkhjhhaaCSl
namespace Go.Proofs.Ytgbfhhmmkhjhhaa.Paths
open Go.RowKit Go.Proofs.YtgbfhhmmkhjhhaaW.PrintWords Go.Proofs.YtgbfhhmmkhjhhaaW.PrintLast Go.Proofs.YtgbfhhmmkhjhhaaW.PrintMore Go.Proofs.Ytgbfhhmmkhjhhaa.HeapW Go.Proofs.Ytgbfhhmmkhjhhaa.HeapP Go.Proofs.Ytgbfhhmmkhjhhaa.MapAt Go.Proofs.Ytgbfhhmmkhjhhaa.Dij
open Go.Proofs.Ytgbfhhmmkhjhhaa.HeapIR hiding It Pt kIt_K infoZ reps_single
open Go.Proofs.Ytgbfhhmmkhjhhaa.Roads (NetS NetAt outOf isN isN_iff nodeP roadP okP kPt kRd)
set_option linter.unusedVariables false
set_option linter.unusedSimpArgs false
def P16 (a : Int) : Prop := -32768 ≤ a ∧ a ≤ 32767
set_option maxHeartbeats 3200000 in
set_option maxRecDepth 100000 in
theorem apart_calls (a b : Int) (ha : P16 a) (hb : P16 b) (w : World) : Calls Try.prog 34 #[.int .i16 a, .int .i16 b] w fun e w' => e = .returned (.int .i64 (max (a - b) (b - a))) ∧ w' = w := by
  have h1 : wrap64 a = a := by unfold wrap64; have := ha.1; have := ha.2; omega
  have h2 : wrap64 b = b := by unfold wrap64; have := hb.1; have := hb.2; omega
  have h3 : wrap64 (a - b) = a - b := by unfold wrap64; have := ha.1; have := ha.2; have := hb.1; have := hb.2; omega
  have h4 : wrap64 (b - a) = b - a := by unfold wrap64; have := ha.1; have := ha.2; have := hb.1; have := hb.2; omega
  clear ha hb
  go_enter Try.func34, Try.ntmps34
  go_wp2_with ((with_reducible refine gate_upon ?_); go_simp)
  all_goals clear h1 h2 h3 h4
  all_goals go_ret
  all_goals exact ⟨congrArg (fun z => Ending.returned (Value.int .i64 z)) (by omega), rfl⟩
def dist.T1 : Bool × List (List Nat × List Nat) := (true, [([], []), ([0], [0]), ([], []), ([2], [2]), ([1, 3], [1, 3]), ([], []), ([5], [5]), ([], []), ([7], [7]), ([6, 8, 4], [6, 8]), ([4, 9], [4, 9]), ([10, 9, 0, 1, 2, 3, 4, 5, 6, 7, 8, 9, 10], [10])])
def dist.B1 : List Nat := [0, 1, 0, 4, 15, 0, 32, 0, 128, 511, 1023, 2047]
theorem dist.tab1 : rtab .any (opsOf Try.f23 1) = dist.T1 := by kernel_rfl
theorem dist.bits1 : waitsOk dist.T1.2 dist.B1 = true := by kernel_rfl
set_option maxHeartbeats 3200000 in
set_option maxRecDepth 100000 in
theorem dist_calls (p q : Roads.Pt) (h : P16 p.1 ∧ P16 q.1 ∧ P16 p.2 ∧ P16 q.2) (w : World) : Calls Try.prog 23 #[.agg #[.int .i16 p.1, .int .i16 p.2], .agg #[.int .i16 q.1, .int .i16 q.2]] w fun e w' => e = .returned (.int .i64 (max (p.1 - q.1) (q.1 - p.1) + max (p.2 - q.2) (q.2 - p.2))) ∧ Below w.heap.size w w' := by
  have HPQ := Aside0.mk h
  have HWS : Aside0 (wrap64 (max (p.1 - q.1) (q.1 - p.1) + max (p.2 - q.2) (q.2 - p.2)) = max (p.1 - q.1) (q.1 - p.1) + max (p.2 - q.2) (q.2 - p.2)) := ⟨by unfold wrap64; unfold P16 at h; omega⟩
  clear h
  go_enter Try.func23, Try.ntmps23
  go_upto_region 1 with (fail)
  have HBB : Aside0 (Below w.heap.size w ((w.alloc (.cells #[.int .i16 p.1, .int .i16 p.2] 59)).alloc (.cells #[.int .i16 q.1, .int .i16 q.2] 59))) := ⟨below_alloc (below_alloc (Below.refl _ _) _) _⟩
  have HA : Aside0 (((w.alloc (.cells #[.int .i16 p.1, .int .i16 p.2] 59)).alloc (.cells #[.int .i16 q.1, .int .i16 q.2] 59)).heap[w.heap.size]? = some (.cells #[.int .i16 p.1, .int .i16 p.2] 59 (0, 0))) := ⟨blk_alloc (blk_new _ _) _⟩
  have HB : Aside0 (((w.alloc (.cells #[.int .i16 p.1, .int .i16 p.2] 59)).alloc (.cells #[.int .i16 q.1, .int .i16 q.2] 59)).heap[w.heap.size + 1]? = some (.cells #[.int .i16 q.1, .int .i16 q.2] 59 (0, 0))) := ⟨by have h := blk_new (w.alloc (.cells #[.int .i16 p.1, .int .i16 p.2] 59)) (.cells #[.int .i16 q.1, .int .i16 q.2] 59); rwa [World.size_alloc] at h⟩
  generalize ((w.alloc (.cells #[.int .i16 p.1, .int .i16 p.2] 59)).alloc (.cells #[.int .i16 q.1, .int .i16 q.2] 59)) = wB at HBB HA HB ⊢
  obtain ⟨ga, hga⟩ : ∃ ga, ga = w.heap.size := ⟨_, rfl⟩
  obtain ⟨gb, hgb⟩ : ∃ gb, gb = w.heap.size + 1 := ⟨_, rfl⟩
  rw [← hga] at HA
  rw [← hgb] at HB
  rw [← hgb, ← hga]
  have h0 : wB.cell? ⟨ga, 0, none⟩ = some (.int .i16 p.1) := (blk_cell HA.out 0).trans rfl
  have h1 : wB.cell? ⟨ga, 1, none⟩ = some (.int .i16 p.2) := (blk_cell HA.out 1).trans rfl
  have h2 : wB.cell? ⟨gb, 0, none⟩ = some (.int .i16 q.1) := (blk_cell HB.out 0).trans rfl
  have h3 : wB.cell? ⟨gb, 1, none⟩ = some (.int .i16 q.2) := (blk_cell HB.out 1).trans rfl
  have hw1 := HWS.out
  clear HA HB hga hgb
  refine start_ (n := 12) (S := fun w' => w'.cell? ⟨ga, 0, none⟩ = some (.int .i16 p.1) ∧ w'.cell? ⟨ga, 1, none⟩ = some (.int .i16 p.2) ∧ w'.cell? ⟨gb, 0, none⟩ = some (.int .i16 q.1) ∧ w'.cell? ⟨gb, 1, none⟩ = some (.int .i16 q.2)) (ds := []) #[ff,ff,ff,ff,ff,ff,ff,ff,ff,ff,ff,ff] (by kernel_rfl) rfl rfl ⟨h0, h1, h2, h3⟩ (fun hHeld => ?_)
  refine with_tabW dist.tab1 dist.bits1 (fun HT_ HW_ => ?_)
  have HQ4 : Aside0 (wB.drew.cell? ⟨ga, 0, none⟩ = some (.int .i16 p.1) ∧ wB.drew.cell? ⟨ga, 1, none⟩ = some (.int .i16 p.2) ∧ wB.drew.cell? ⟨gb, 0, none⟩ = some (.int .i16 q.1) ∧ wB.drew.cell? ⟨gb, 1, none⟩ = some (.int .i16 q.2) ∧ Below w.heap.size w wB.drew) := ⟨h0, h1, h2, h3, below_drew HBB.out⟩
  clear h0 h1 h2 h3 HBB
  generalize wB.drew = w4 at HQ4 hHeld ⊢
  refine pure_ (i := 0) (N := some 5) (v := ?_) (a' := ?_) #[tt,ff,ff,ff,ff,ff,ff,ff,ff,ff,ff,ff] rfl rfl (any_of HT_.out (by kernel_rfl)) (fun _ _ _ h => h) (Or.inl ⟨by rfl, ?_⟩) ?_ ?_
  rotate_left; exact slv; rotate_left; exact sla
  refine pure_ (i := 2) (N := some 7) (v := ?_) (a' := ?_) #[tt,ff,tt,ff,ff,ff,ff,ff,ff,ff,ff,ff] rfl rfl (any_of HT_.out (by kernel_rfl)) (fun _ _ _ h => h) (Or.inl ⟨by rfl, ?_⟩) ?_ ?_
  rotate_left; exact slv; rotate_left; exact sla
  refine pure_ (i := 5) (N := some 10) (v := ?_) (a' := ?_) #[tt,ff,tt,ff,ff,tt,ff,ff,ff,ff,ff,ff] rfl rfl (any_of HT_.out (by kernel_rfl)) (fun _ _ _ h => h) (Or.inl ⟨by rfl, ?_⟩) ?_ ?_
  rotate_left; exact slv; rotate_left; exact sla
  refine pure_ (i := 7) (N := some 12) (v := ?_) (a' := ?_) #[tt,ff,tt,ff,ff,tt,ff,tt,ff,ff,ff,ff] rfl rfl (any_of HT_.out (by kernel_rfl)) (fun _ _ _ h => h) (Or.inl ⟨by rfl, ?_⟩) ?_ ?_
  rotate_left; exact slv; rotate_left; exact sla
  refine take_ (i := 1) (N := some 6) (v := ?_) (a' := ?_) #[tt,tt,tt,ff,ff,tt,ff,tt,ff,ff,ff,ff] rfl rfl (take_ofW HT_.out HW_.out (by kernel_rfl)) (fun _ _ _ h => h) (Or.inl ⟨by rfl, ?_⟩) hHeld ?_ ?_
  rotate_left; exact slt4; rotate_left; exact sla
  refine take_ (i := 3) (N := some 8) (v := ?_) (a' := ?_) #[tt,tt,tt,tt,ff,tt,ff,tt,ff,ff,ff,ff] rfl rfl (take_ofW HT_.out HW_.out (by kernel_rfl)) (fun _ _ _ h => h) (Or.inl ⟨by rfl, ?_⟩) hHeld ?_ ?_
  rotate_left; exact slt4; rotate_left; exact sla
  refine take_ (i := 6) (N := some 11) (v := ?_) (a' := ?_) #[tt,tt,tt,tt,ff,tt,tt,tt,ff,ff,ff,ff] rfl rfl (take_ofW HT_.out HW_.out (by kernel_rfl)) (fun _ _ _ h => h) (Or.inl ⟨by rfl, ?_⟩) hHeld ?_ ?_
  rotate_left; exact slt4; rotate_left; exact sla
  refine take_ (i := 8) (N := some 13) (v := ?_) (a' := ?_) #[tt,tt,tt,tt,ff,tt,tt,tt,tt,ff,ff,ff] rfl rfl (take_ofW HT_.out HW_.out (by kernel_rfl)) (fun _ _ _ h => h) (Or.inl ⟨by rfl, ?_⟩) hHeld ?_ ?_
  rotate_left; exact slt4; rotate_left; exact sla
  refine one_ (i := 4) (N := some 9) #[tt,tt,tt,tt,tt,tt,tt,tt,tt,ff,ff,ff] rfl rfl (one_of HT_.out (by kernel_rfl)) (by decide) (fun K hK => ?_)
  refine goes_ Try.func34 (by kernel_rfl) rfl #[.int .i16 p.1, .int .i16 q.1] (by rfl) rfl rfl (by simp only [List.map_toArray, List.map_cons, List.map_nil]; rfl) ?_
  with_reducible refine (apart_calls p.1 q.1 HPQ.out.1 HPQ.out.2.1 _).mono ?_
  rintro e w5 ⟨rfl, hw5⟩
  refine ⟨_, rfl, ?_⟩
  have HQ5 : Aside0 (w5.cell? ⟨ga, 0, none⟩ = some (.int .i16 p.1) ∧ w5.cell? ⟨ga, 1, none⟩ = some (.int .i16 p.2) ∧ w5.cell? ⟨gb, 0, none⟩ = some (.int .i16 q.1) ∧ w5.cell? ⟨gb, 1, none⟩ = some (.int .i16 q.2) ∧ Below w.heap.size w w5) := ⟨by rw [hw5]; exact HQ4.out⟩
  clear hw5
  refine hK.out _ _ ⟨HQ5.out.1, HQ5.out.2.1, HQ5.out.2.2.1, HQ5.out.2.2.2.1⟩ (fun hHeld => ?_)
  clear hK K
  refine norm_ (a' := ?_) ?_ ?_
  rotate_left
  · show Act.put _ (some 9) _ = _
    simp only [Act.put, List.setIfInBounds_toArray, List.set_cons_zero, List.set_cons_succ, i64_w, i32_w]
    rfl
  refine one_ (i := 9) (N := some 14) #[tt,tt,tt,tt,tt,tt,tt,tt,tt,tt,ff,ff] rfl rfl (one_of HT_.out (by kernel_rfl)) (by decide) (fun K hK => ?_)
  refine goes_ Try.func34 (by kernel_rfl) rfl #[.int .i16 p.2, .int .i16 q.2] (by rfl) rfl rfl (by simp only [List.map_toArray, List.map_cons, List.map_nil]; rfl) ?_
  with_reducible refine (apart_calls p.2 q.2 HPQ.out.2.2.1 HPQ.out.2.2.2 _).mono ?_
  rintro e w6 ⟨rfl, hw6⟩
  refine ⟨_, rfl, ?_⟩
  have HQ6 : Aside0 (w6.cell? ⟨ga, 0, none⟩ = some (.int .i16 p.1) ∧ w6.cell? ⟨ga, 1, none⟩ = some (.int .i16 p.2) ∧ w6.cell? ⟨gb, 0, none⟩ = some (.int .i16 q.1) ∧ w6.cell? ⟨gb, 1, none⟩ = some (.int .i16 q.2) ∧ Below w.heap.size w w6) := ⟨by rw [hw6]; exact HQ5.out⟩
  clear hw6
  refine hK.out _ _ ⟨HQ6.out.1, HQ6.out.2.1, HQ6.out.2.2.1, HQ6.out.2.2.2.1⟩ (fun hHeld => ?_)
  clear hK K
  refine norm_ (a' := ?_) ?_ ?_
  rotate_left
  · show Act.put _ (some 14) _ = _
    simp only [Act.put, List.setIfInBounds_toArray, List.set_cons_zero, List.set_cons_succ, i64_w, i32_w]
    rfl
  refine pure_ (i := 10) (N := some 15) (v := ?_) (a' := ?_) #[tt,tt,tt,tt,tt,tt,tt,tt,tt,tt,tt,ff] rfl rfl (any_of HT_.out (by kernel_rfl)) (fun _ _ _ h => h) (Or.inl ⟨by rfl, ?_⟩) ?_ ?_
  rotate_left; exact slv; rotate_left; exact sla
  refine pure_ (i := 11) (N := some 4) (v := ?_) (a' := ?_) #[tt,tt,tt,tt,tt,tt,tt,tt,tt,tt,tt,tt] rfl rfl (any_of HT_.out (by kernel_rfl)) (fun _ _ _ h => h) (Or.inl ⟨by rfl, ?_⟩) ?_ ?_
  rotate_left; exact slv; rotate_left; exact sla
  refine done_ (done_of HT_.out (by kernel_rfl)) ?_
  try clear hHeld
  try go_wp2
  go_ret
  first | exact ⟨rfl, HQ6.out.2.2.2.2⟩ | (rw [hw1]; exact ⟨rfl, HQ6.out.2.2.2.2⟩)
end Go.Proofs.Ytgbfhhmmkhjhhaa.Paths
