/- What a heap's methods do: HeapIR, lens,first,rank,drop,pop. Conditions: those that stand in each theorem. Written by wip/gen/heapg.py. -/
import Derived.Test.YtgbfhhmmkhjhhaaCHeapIRB
import Derived.Test.YtgbfhhmmkhjhhaaCSl
namespace Go.Proofs.Ytgbfhhmmkhjhhaa.HeapIR
open Go.RowKit Go.Proofs.YtgbfhhmmkhjhhaaW.PrintWords Go.Proofs.YtgbfhhmmkhjhhaaW.PrintLast Go.Proofs.YtgbfhhmmkhjhhaaW.PrintMore Go.Proofs.Ytgbfhhmmkhjhhaa.HeapW Go.Proofs.Ytgbfhhmmkhjhhaa.HeapP Go.Proofs.Ytgbfhhmmkhjhhaa.MapAt
set_option linter.unusedVariables false
set_option linter.unusedSimpArgs false
set_option maxHeartbeats 8000000 in
set_option maxRecDepth 100000 in
theorem len_calls (base g : Nat) (fv : Value) (A : Option Addr) (cap b : Nat) (l : List It) (c : Int) (w : World) (h : HAt w base g fv A cap b l c) :
    Calls Try.prog 50 #[.pointer (some ⟨g, 0, none⟩)] w fun e w' => e = .returned (.int .i64 l.length) ∧ w' = w := by
  have hc1 : w.cell? ⟨g, 1, none⟩ = some (.slice A l.length cap) := (blk_cell h.blk 1).trans rfl
  clear h
  go_enter Try.func50, Try.ntmps50
  go_wp2
  go_ret
  exact ⟨rfl, rfl⟩
def first.T2 : Bool × List (List Nat × List Nat) := (true, [([], []), ([], []), ([0, 0], [0]), ([1, 2, 0, 1, 2], [1]), ([3, 0, 1, 2, 3], [])])
def first.B2 : List Nat := [0, 0, 1, 7, 15]
theorem first.tab2 : rtab .any (opsOf Try.f45 2) = first.T2 := by kernel_rfl
theorem first.bits2 : waitsOk first.T2.2 first.B2 = true := by kernel_rfl
def first.T3 : Bool × List (List Nat × List Nat) := (true, [([], []), ([0], [0]), ([1], [1]), ([2], [2]), ([3], [3]), ([4], [4]), ([5], [5]), ([], []), ([7], [7]), ([8], [8]), ([9], [9]), ([10], [10]), ([11], [11]), ([12], [12]), ([6, 0, 1, 2, 3, 4, 5, 6], [6]), ([13, 14, 0, 1, 2, 3, 4, 5, 6, 7, 8, 9, 10, 11, 12, 13, 14], [13]), ([15, 0, 1, 2, 3, 4, 5, 6, 7, 8, 9, 10, 11, 12, 13, 14, 15], [])])
def first.B3 : List Nat := [0, 1, 3, 7, 15, 31, 63, 0, 128, 384, 896, 1920, 3968, 8064, 127, 32767, 65535]
theorem first.tab3 : rtab .any (opsOf Try.f45 3) = first.T3 := by kernel_rfl
theorem first.bits3 : waitsOk first.T3.2 first.B3 = true := by kernel_rfl
set_option maxHeartbeats 8000000 in
set_option maxRecDepth 100000 in
theorem first_calls (base g : Nat) (fv : Value) (A : Option Addr) (cap b : Nat) (l : List It) (c : Int) (w : World) (h : HAt w base g fv A cap b l c) (hl : 0 < l.length) :
    Calls Try.prog 45 #[.pointer (some ⟨g, 0, none⟩)] w fun e w' => e = .returned (.tuple #[.int .i64 (at_ l 0).1, .agg #[.int .i64 (at_ l 0).2.1.1, .int .i64 (at_ l 0).2.1.2], .bool true]) ∧ Below w.heap.size w w' := by
  obtain ⟨gl, rfl⟩ := h.some hl
  have hne : ((l.length : Int) == 0) = false := beq_eq_false_iff_ne.mpr (by omega)
  have hll : (0 : Int) < l.length := by omega
  have H := Aside0.mk h
  have HS : Aside0 (∀ w', Below w.heap.size w w' → w'.cell? ⟨g, 1, none⟩ = some (.slice (some ⟨gl, 0, none⟩) l.length cap) ∧ w'.cell? ⟨gl, 0, none⟩ = some (.int .i64 (at_ l 0).1) ∧ w'.cell? ⟨gl, 1, none⟩ = some (.int .i64 (at_ l 0).2.1.1) ∧ w'.cell? ⟨gl, 2, none⟩ = some (.int .i64 (at_ l 0).2.1.2) ∧ w'.cell? ⟨gl, 3, none⟩ = some (.int .i64 (at_ l 0).2.2)) := ⟨fun w' hb => by
    obtain ⟨i0, i1, i2, i3, _⟩ := item_cells h.row hl
    rw [Nat.zero_mul] at i0 i1 i2 i3
    exact ⟨pw_cell_below hb ((blk_cell h.blk 1).trans rfl), pw_cell_below hb i0, pw_cell_below hb i1, pw_cell_below hb i2, pw_cell_below hb i3⟩⟩
  clear h
  go_enter Try.func45, Try.ntmps45
  go_wp2_with fail
  have HB0 : Aside0 (Below w.heap.size w w) := ⟨Below.refl _ _⟩
  have HXgr : Aside0 ((w.alloc (.cells #[.int .i64 0, .int .i64 0] 83)).heap[w.heap.size]? = some (.cells #[.int .i64 0, .int .i64 0] 83 (0, 0))) := ⟨blk_new _ _⟩
  have HB1 := Aside0.mk (below_alloc HB0.out (.cells #[.int .i64 0, .int .i64 0] 83))
  have HQ := Aside0.mk (H.out.below HB1.out)
  have HBB := HB1
  clear HB0 HB1
  generalize (w.alloc (.cells #[.int .i64 0, .int .i64 0] 83)) = wB at HXgr HQ HBB ⊢
  refine (len_calls base g fv _ cap b l c wB HQ.out).mono ?_
  rintro e w1 ⟨rfl, hw_⟩
  replace hw_ := hw_.symm
  subst hw_
  go_wp2_with fail
  have HXgr1 : Aside0 (wB.drew.heap[w.heap.size]? = _) := ⟨HXgr.out⟩
  have HB1 : Aside0 (Below w.heap.size w wB.drew) := ⟨below_drew HBB.out⟩
  clear HBB HQ HXgr
  refine start_ (n := 17) (S := fun w' => w'.cell? ⟨g, 1, none⟩ = some (.slice (some ⟨gl, 0, none⟩) l.length cap) ∧ w'.cell? ⟨gl, 0, none⟩ = some (.int .i64 (at_ l 0).1) ∧ w'.cell? ⟨gl, 1, none⟩ = some (.int .i64 (at_ l 0).2.1.1) ∧ w'.cell? ⟨gl, 2, none⟩ = some (.int .i64 (at_ l 0).2.1.2) ∧ w'.cell? ⟨gl, 3, none⟩ = some (.int .i64 (at_ l 0).2.2)) (ds := []) #[ff,ff,ff,ff,ff,ff,ff,ff,ff,ff,ff,ff,ff,ff,ff,ff,ff] (by kernel_rfl) rfl rfl ⟨(HS.out _ HB1.out).1, (HS.out _ HB1.out).2.1, (HS.out _ HB1.out).2.2.1, (HS.out _ HB1.out).2.2.2.1, (HS.out _ HB1.out).2.2.2.2⟩ (fun hHeld => ?_)
  refine with_tabW first.tab3 first.bits3 (fun HT_ HW_ => ?_)
  generalize wB.drew = w1 at HB1 HXgr1 hHeld ⊢
  refine pure_ (i := 0) (N := some 10) (v := ?_) (a' := ?_) #[tt,ff,ff,ff,ff,ff,ff,ff,ff,ff,ff,ff,ff,ff,ff,ff,ff] rfl rfl (any_of HT_.out (by kernel_rfl)) (fun _ _ _ h => h) (Or.inl ⟨by rfl, ?_⟩) ?_ ?_
  rotate_left; exact slv; rotate_left; exact sla
  refine pure_ (i := 1) (N := some 11) (v := ?_) (a' := ?_) #[tt,tt,ff,ff,ff,ff,ff,ff,ff,ff,ff,ff,ff,ff,ff,ff,ff] rfl rfl (any_of HT_.out (by kernel_rfl)) (fun _ _ _ h => h) (Or.inl ⟨by rfl, ?_⟩) ?_ ?_
  rotate_left; exact slv; rotate_left; exact sla
  refine pure_ (i := 2) (N := some 12) (v := ?_) (a' := ?_) #[tt,tt,tt,ff,ff,ff,ff,ff,ff,ff,ff,ff,ff,ff,ff,ff,ff] rfl rfl (any_of HT_.out (by kernel_rfl)) (fun _ _ _ h => h) (Or.inl ⟨by rfl, ?_⟩) ?_ ?_
  rotate_left; exact slv; rotate_left; exact sla
  refine pure_ (i := 7) (N := some 17) (v := ?_) (a' := ?_) #[tt,tt,tt,ff,ff,ff,ff,tt,ff,ff,ff,ff,ff,ff,ff,ff,ff] rfl rfl (any_of HT_.out (by kernel_rfl)) (fun _ _ _ h => h) (Or.inl ⟨by rfl, ?_⟩) ?_ ?_
  rotate_left; exact slv; rotate_left; exact sla
  refine pure_ (i := 8) (N := some 18) (v := ?_) (a' := ?_) #[tt,tt,tt,ff,ff,ff,ff,tt,tt,ff,ff,ff,ff,ff,ff,ff,ff] rfl rfl (any_of HT_.out (by kernel_rfl)) (fun _ _ _ h => h) (Or.inl ⟨by rfl, ?_⟩) ?_ ?_
  rotate_left; exact slv; rotate_left; exact sla
  refine pure_ (i := 9) (N := some 19) (v := ?_) (a' := ?_) #[tt,tt,tt,ff,ff,ff,ff,tt,tt,tt,ff,ff,ff,ff,ff,ff,ff] rfl rfl (any_of HT_.out (by kernel_rfl)) (fun _ _ _ h => h) (Or.inl ⟨by rfl, ?_⟩) ?_ ?_
  rotate_left; exact slv; rotate_left; exact sla
  refine take_ (i := 3) (N := some 13) (v := ?_) (a' := ?_) #[tt,tt,tt,tt,ff,ff,ff,tt,tt,tt,ff,ff,ff,ff,ff,ff,ff] rfl rfl (take_ofW HT_.out HW_.out (by kernel_rfl)) (fun _ _ _ h => h) (Or.inl ⟨by rfl, ?_⟩) hHeld ?_ ?_
  rotate_left; exact slt5; rotate_left; exact sla
  refine pure_ (i := 4) (N := some 14) (v := ?_) (a' := ?_) #[tt,tt,tt,tt,tt,ff,ff,tt,tt,tt,ff,ff,ff,ff,ff,ff,ff] rfl rfl (any_of HT_.out (by kernel_rfl)) (fun _ _ _ h => h) (Or.inl ⟨by rfl, ?_⟩) ?_ ?_
  rotate_left; exact slv; rotate_left; exact sla
  refine pure_ (i := 5) (N := some 15) (v := ?_) (a' := ?_) #[tt,tt,tt,tt,tt,tt,ff,tt,tt,tt,ff,ff,ff,ff,ff,ff,ff] rfl rfl (any_of HT_.out (by kernel_rfl)) (fun _ _ _ h => h) (Or.inl ⟨by rfl, ?_⟩) ?_ ?_
  rotate_left; exact slv; rotate_left; exact sla
  refine take_ (i := 6) (N := some 16) (v := ?_) (a' := ?_) #[tt,tt,tt,tt,tt,tt,tt,tt,tt,tt,ff,ff,ff,ff,ff,ff,ff] rfl rfl (take_ofW HT_.out HW_.out (by kernel_rfl)) (fun _ _ _ h => h) (Or.inl ⟨by rfl, ?_⟩) hHeld ?_ ?_
  rotate_left; exact slt5; rotate_left; exact sla
  refine pure_ (i := 14) (N := some 2) (v := ?_) (a' := ?_) #[tt,tt,tt,tt,tt,tt,tt,tt,tt,tt,ff,ff,ff,ff,tt,ff,ff] rfl rfl (any_of HT_.out (by kernel_rfl)) (fun _ _ _ h => h) (Or.inl ⟨by rfl, ?_⟩) ?_ ?_
  rotate_left; exact slv; rotate_left; exact sla
  refine take_ (i := 10) (N := some 20) (v := ?_) (a' := ?_) #[tt,tt,tt,tt,tt,tt,tt,tt,tt,tt,tt,ff,ff,ff,tt,ff,ff] rfl rfl (take_ofW HT_.out HW_.out (by kernel_rfl)) (fun _ _ _ h => h) (Or.inl ⟨by rfl, ?_⟩) hHeld ?_ ?_
  rotate_left; exact slt5; rotate_left; exact sla
  refine pure_ (i := 11) (N := some 21) (v := ?_) (a' := ?_) #[tt,tt,tt,tt,tt,tt,tt,tt,tt,tt,tt,tt,ff,ff,tt,ff,ff] rfl rfl (any_of HT_.out (by kernel_rfl)) (fun _ _ _ h => h) (Or.inl ⟨by rfl, ?_⟩) ?_ ?_
  rotate_left; exact slv; rotate_left; exact sla
  refine pure_ (i := 12) (N := some 22) (v := ?_) (a' := ?_) #[tt,tt,tt,tt,tt,tt,tt,tt,tt,tt,tt,tt,tt,ff,tt,ff,ff] rfl rfl (any_of HT_.out (by kernel_rfl)) (fun _ _ _ h => h) (Or.inl ⟨by rfl, ?_⟩) ?_ ?_
  rotate_left; exact slv; rotate_left; exact sla
  refine take_ (i := 13) (N := some 23) (v := ?_) (a' := ?_) #[tt,tt,tt,tt,tt,tt,tt,tt,tt,tt,tt,tt,tt,tt,tt,ff,ff] rfl rfl (take_ofW HT_.out HW_.out (by kernel_rfl)) (fun _ _ _ h => h) (Or.inl ⟨by rfl, ?_⟩) hHeld ?_ ?_
  rotate_left; exact slt5; rotate_left; exact sla
  refine one_ (i := 15) (N := none) #[tt,tt,tt,tt,tt,tt,tt,tt,tt,tt,tt,tt,tt,tt,tt,tt,ff] rfl rfl (one_of HT_.out (by kernel_rfl)) (by decide) (fun K hK => ?_)
  refine rowstore_ (by rfl) rfl 83 (.tmp 3) (.tmp 23) rfl w.heap.size #[.int .i64 (at_ l 0).2.1.1, .int .i64 (at_ l 0).2.1.2] (by rfl) (by rfl) _ _ HXgr1.out infoP rfl (by simp [Value.oneCell']) ?_
  have hs := chg_row (cs := #[.int .i64 (at_ l 0).2.1.1, .int .i64 (at_ l 0).2.1.2]) HXgr1.out
  have HXgr2 := Aside0.mk hs.1
  have HB2 : Aside0 (Below w.heap.size w _) := ⟨HB1.out.trans (hs.2.below HB1.out.size (fun k hk => by have e : k = w.heap.size := hk; omega))⟩
  clear hs HB1 HXgr1
  generalize w1.setRow w.heap.size #[.int .i64 (at_ l 0).2.1.1, .int .i64 (at_ l 0).2.1.2] = w2 at HB2 HXgr2 ⊢
  refine hK.out _ _ ⟨(HS.out _ HB2.out).1, (HS.out _ HB2.out).2.1, (HS.out _ HB2.out).2.2.1, (HS.out _ HB2.out).2.2.2.1, (HS.out _ HB2.out).2.2.2.2⟩ (fun hHeld => ?_)
  clear hK K
  refine pure_ (i := 16) (N := some 4) (v := ?_) (a' := ?_) #[tt,tt,tt,tt,tt,tt,tt,tt,tt,tt,tt,tt,tt,tt,tt,tt,tt] rfl rfl (any_of HT_.out (by kernel_rfl)) (fun _ _ _ h => h) (Or.inl ⟨by rfl, ?_⟩) ?_ ?_
  rotate_left; exact slv; rotate_left; exact sla
  refine done_ (done_of HT_.out (by kernel_rfl)) ?_
  try clear hHeld
  try go_wp2
  refine bodyPost_ret (results_list (rs := [.tmp 2, .cell 3 83, .tmp 4]) rfl (by simp) (.tmp (.cell w.heap.size 83 _ (0, 0) _ rfl HXgr2.out Try.underlying83 rfl infoP (.tmp .nil)))) rfl ?_
  exact ⟨rfl, HB2.out⟩
set_option maxHeartbeats 8000000 in
set_option maxRecDepth 100000 in
theorem first_none (base g : Nat) (fv : Value) (A : Option Addr) (cap b : Nat) (c : Int) (w : World) (h : HAt w base g fv A cap b [] c) :
    Calls Try.prog 45 #[.pointer (some ⟨g, 0, none⟩)] w fun e w' => e = .returned (.tuple #[.int .i64 0, .agg #[.int .i64 0, .int .i64 0], .bool false]) ∧ Below w.heap.size w w' := by
  have H := Aside0.mk h
  clear h
  go_enter Try.func45, Try.ntmps45
  go_wp2_with fail
  have HB0 : Aside0 (Below w.heap.size w w) := ⟨Below.refl _ _⟩
  have HXgr : Aside0 ((w.alloc (.cells #[.int .i64 0, .int .i64 0] 83)).heap[w.heap.size]? = some (.cells #[.int .i64 0, .int .i64 0] 83 (0, 0))) := ⟨blk_new _ _⟩
  have HB1 := Aside0.mk (below_alloc HB0.out (.cells #[.int .i64 0, .int .i64 0] 83))
  have HQ := Aside0.mk (H.out.below HB1.out)
  have HBB := HB1
  clear HB0 HB1
  generalize (w.alloc (.cells #[.int .i64 0, .int .i64 0] 83)) = wB at HXgr HQ HBB ⊢
  refine (len_calls base g fv _ cap b [] c wB HQ.out).mono ?_
  rintro e w1 ⟨rfl, hw_⟩
  replace hw_ := hw_.symm
  subst hw_
  go_wp2_with fail
  have HB1 : Aside0 (Below w.heap.size w wB.drew) := ⟨below_drew HBB.out⟩
  have HXgr1 : Aside0 (wB.drew.heap[w.heap.size]? = _) := ⟨HXgr.out⟩
  clear HBB HQ HXgr
  refine start_ (n := 5) (S := fun w' => w'.cell? ⟨w.heap.size, 0, none⟩ = some (.int .i64 0) ∧ w'.cell? ⟨w.heap.size, 1, none⟩ = some (.int .i64 0)) (ds := []) #[false, false, false, false, false] (by kernel_rfl) rfl rfl ⟨(blk_cell HXgr1.out 0).trans rfl, (blk_cell HXgr1.out 1).trans rfl⟩ (fun hHeld => ?_)
  refine with_tabW first.tab2 first.bits2 (fun HT_ HW_ => ?_)
  generalize wB.drew = w1 at HB1 HXgr1 hHeld ⊢
  refine pure_ (i := 0) (N := some 8) (v := ?_) (a' := ?_) #[true, false, false, false, false] rfl rfl (any_of HT_.out (by kernel_rfl)) (fun _ _ _ h => h) (Or.inl ⟨by rfl, ?_⟩) ?_ ?_
  rotate_left; exact slv; rotate_left; exact sla
  refine pure_ (i := 2) (N := some 2) (v := ?_) (a' := ?_) #[true, false, true, false, false] rfl rfl (any_of HT_.out (by kernel_rfl)) (fun _ _ _ h => h) (Or.inl ⟨by rfl, ?_⟩) ?_ ?_
  rotate_left; exact slv; rotate_left; exact sla
  refine take_ (i := 1) (N := some 9) (v := ?_) (a' := ?_) #[true, true, true, false, false] rfl rfl (take_ofW HT_.out HW_.out (by kernel_rfl)) (fun _ _ _ h => h) (Or.inl ⟨by rfl, ?_⟩) hHeld ?_ ?_
  rotate_left; exact slt2; rotate_left; exact sla
  refine one_ (i := 3) (N := none) #[true, true, true, true, false] rfl rfl (one_of HT_.out (by kernel_rfl)) (by decide) (fun K hK => ?_)
  refine rowstore_ (by rfl) rfl 83 (.tmp 3) (.tmp 9) rfl w.heap.size #[.int .i64 0, .int .i64 0] (by rfl) (by rfl) _ _ HXgr1.out infoP rfl (by simp [Value.oneCell']) ?_
  have hs := chg_row (cs := #[.int .i64 0, .int .i64 0]) HXgr1.out
  have HXgr2 := Aside0.mk hs.1
  have HB2 : Aside0 (Below w.heap.size w _) := ⟨HB1.out.trans (hs.2.below HB1.out.size (fun k hk => by have e : k = w.heap.size := hk; omega))⟩
  clear hs HB1 HXgr1
  generalize w1.setRow w.heap.size #[.int .i64 0, .int .i64 0] = w2 at HB2 HXgr2 ⊢
  refine hK.out _ _ ⟨(blk_cell HXgr2.out 0).trans rfl, (blk_cell HXgr2.out 1).trans rfl⟩ (fun hHeld => ?_)
  clear hK K
  refine pure_ (i := 4) (N := some 4) (v := ?_) (a' := ?_) #[true, true, true, true, true] rfl rfl (any_of HT_.out (by kernel_rfl)) (fun _ _ _ h => h) (Or.inl ⟨by rfl, ?_⟩) ?_ ?_
  rotate_left; exact slv; rotate_left; exact sla
  refine done_ (done_of HT_.out (by kernel_rfl)) ?_
  try clear hHeld
  try go_wp2
  refine bodyPost_ret (results_list (rs := [.tmp 2, .cell 3 83, .tmp 4]) rfl (by simp) (.tmp (.cell w.heap.size 83 _ (0, 0) _ rfl HXgr2.out Try.underlying83 rfl infoP (.tmp .nil)))) rfl ?_
  exact ⟨rfl, HB2.out⟩
set_option maxHeartbeats 8000000 in
set_option maxRecDepth 100000 in
theorem rank_calls (base g : Nat) (fv : Value) (A : Option Addr) (cap b : Nat) (l : List It) (c : Int) (key : Kt) (w : World) (h : HAt w base g fv A cap b l c) (hk : okK key) {i : Nat} (hi : idxL l key = some i) :
    Calls Try.prog 39 #[.pointer (some ⟨g, 0, none⟩), .int .i64 key] w fun e w' => e = .returned (.tuple #[.agg #[.int .i64 (at_ l i).2.1.1, .int .i64 (at_ l i).2.1.2], .bool true]) ∧ Below w.heap.size w w' := by
  obtain ⟨hil, hkey⟩ := idx_some hi
  obtain ⟨gl, rfl⟩ := h.some (by omega)
  have hill : (i : Int) < l.length := by omega
  have HI := Aside0.mk hil
  clear hkey
  have H := Aside0.mk h
  have HK := Aside0.mk hk
  have HIX := Aside0.mk hi
  clear h hk hi
  go_enter Try.func39, Try.ntmps39
  go_upto_region 1 with (fail)
  have HB0 : Aside0 (Below w.heap.size w w) := ⟨Below.refl _ _⟩
  have HXgr : Aside0 ((w.alloc (.cells #[.int .i64 0, .int .i64 0] 83)).heap[w.heap.size]? = some (.cells #[.int .i64 0, .int .i64 0] 83 (0, 0))) := ⟨blk_new _ _⟩
  have HB1 := Aside0.mk (below_alloc HB0.out (.cells #[.int .i64 0, .int .i64 0] 83))
  clear HB0
  have HQ := Aside0.mk (H.out.below HB1.out)
  have HBB := HB1
  clear HB1
  generalize (w.alloc (.cells #[.int .i64 0, .int .i64 0] 83)) = wB at HXgr HQ HBB ⊢
  have HQ1 := HQ
  have HB1 := HBB
  clear HQ HBB
  have HXgr1 := HXgr
  clear HXgr
  generalize wB = w1 at HQ1 HB1 HXgr1 ⊢
  have hm := HQ1.out.map.look keyLaw Try.underlying93 (zero_int w1) HK.out
  unfold encK at hm
  rw [HIX.out] at hm
  simp only [Option.getD_some, Option.isSome_some] at hm
  have hc2 : w1.cell? ⟨g, 2, none⟩ = some (.map (some b)) := (blk_cell HQ1.out.blk 2).trans rfl
  have hc1 : w1.cell? ⟨g, 1, none⟩ = some (.slice (some ⟨gl, 0, none⟩) l.length cap) := (blk_cell HQ1.out.blk 1).trans rfl
  obtain ⟨i0, i1, i2, i3, _⟩ := item_cells HQ1.out.row HI.out
  clear i0 i3
  go_wp2_with ((with_reducible refine gate_store (t := 83) (p := 4) (v := .tmp 29) rfl ?_); refine wpList_store_row rfl 83 (.tmp 4) (.tmp 29) rfl w.heap.size #[.int .i64 (at_ l i).2.1.1, .int .i64 (at_ l i).2.1.2] rfl rfl _ _ HXgr1.out infoP rfl (by simp [Value.oneCell']) ?_; have hs := chg_row (cs := #[.int .i64 (at_ l i).2.1.1, .int .i64 (at_ l i).2.1.2]) HXgr1.out; have HXgr2 := Aside0.mk hs.1; have HB2 : Aside0 (Below w.heap.size w (w1.setRow w.heap.size #[.int .i64 (at_ l i).2.1.1, .int .i64 (at_ l i).2.1.2])) := ⟨HB1.out.trans (hs.2.below HB1.out.size (fun k hk => by have e : k = w.heap.size := hk; omega))⟩; clear hs; generalize w1.setRow w.heap.size #[.int .i64 (at_ l i).2.1.1, .int .i64 (at_ l i).2.1.2] = w2 at HXgr2 HB2 ⊢; have hcs0_w2 : w2.cell? ⟨w.heap.size, 0, none⟩ = some (.int .i64 (at_ l i).2.1.1) := (blk_cell HXgr2.out 0).trans rfl; have hcs1_w2 : w2.cell? ⟨w.heap.size, 1, none⟩ = some (.int .i64 (at_ l i).2.1.2) := (blk_cell HXgr2.out 1).trans rfl)
  refine bodyPost_ret (results_list (rs := [.cell 4 83, .tmp 5]) rfl (by simp) (.cell w.heap.size 83 _ (0, 0) _ rfl HXgr2.out Try.underlying83 rfl infoP (.tmp .nil))) rfl ?_
  exact ⟨rfl, HB2.out⟩
set_option maxHeartbeats 8000000 in
set_option maxRecDepth 100000 in
theorem rank_none (base g : Nat) (fv : Value) (A : Option Addr) (cap b : Nat) (l : List It) (c : Int) (key : Kt) (w : World) (h : HAt w base g fv A cap b l c) (hk : okK key) (hi : idxL l key = none) :
    Calls Try.prog 39 #[.pointer (some ⟨g, 0, none⟩), .int .i64 key] w fun e w' => e = .returned (.tuple #[.agg #[.int .i64 0, .int .i64 0], .bool false]) ∧ Below w.heap.size w w' := by
  have H := Aside0.mk h
  have HK := Aside0.mk hk
  have HIX := Aside0.mk hi
  clear h hk hi
  go_enter Try.func39, Try.ntmps39
  go_upto_region 1 with (fail)
  have HB0 : Aside0 (Below w.heap.size w w) := ⟨Below.refl _ _⟩
  have HXgr : Aside0 ((w.alloc (.cells #[.int .i64 0, .int .i64 0] 83)).heap[w.heap.size]? = some (.cells #[.int .i64 0, .int .i64 0] 83 (0, 0))) := ⟨blk_new _ _⟩
  have HB1 := Aside0.mk (below_alloc HB0.out (.cells #[.int .i64 0, .int .i64 0] 83))
  clear HB0
  have HQ := Aside0.mk (H.out.below HB1.out)
  have HBB := HB1
  clear HB1
  generalize (w.alloc (.cells #[.int .i64 0, .int .i64 0] 83)) = wB at HXgr HQ HBB ⊢
  have HQ1 := HQ
  have HB1 := HBB
  clear HQ HBB
  have HXgr1 := HXgr
  clear HXgr
  generalize wB = w1 at HQ1 HB1 HXgr1 ⊢
  have hm := HQ1.out.map.look keyLaw Try.underlying93 (zero_int w1) HK.out
  unfold encK at hm
  rw [HIX.out] at hm
  simp only [Option.getD_none, Option.isSome_none] at hm
  have hc2 : w1.cell? ⟨g, 2, none⟩ = some (.map (some b)) := (blk_cell HQ1.out.blk 2).trans rfl
  have hcc0 : w1.cell? ⟨w.heap.size, 0, none⟩ = some (.int .i64 0) := (blk_cell HXgr1.out 0).trans rfl
  have hcc1 : w1.cell? ⟨w.heap.size, 1, none⟩ = some (.int .i64 0) := (blk_cell HXgr1.out 1).trans rfl
  go_wp2_with ((with_reducible refine gate_store (t := 83) (p := 4) (v := .tmp 21) rfl ?_); refine wpList_store_row rfl 83 (.tmp 4) (.tmp 21) rfl w.heap.size #[.int .i64 0, .int .i64 0] rfl rfl _ _ HXgr1.out infoP rfl (by simp [Value.oneCell']) ?_; have hs := chg_row (cs := #[.int .i64 0, .int .i64 0]) HXgr1.out; have HXgr2 := Aside0.mk hs.1; have HB2 : Aside0 (Below w.heap.size w (w1.setRow w.heap.size #[.int .i64 0, .int .i64 0])) := ⟨HB1.out.trans (hs.2.below HB1.out.size (fun k hk => by have e : k = w.heap.size := hk; omega))⟩; clear hs; generalize w1.setRow w.heap.size #[.int .i64 0, .int .i64 0] = w2 at HXgr2 HB2 ⊢; have hcs0_w2 : w2.cell? ⟨w.heap.size, 0, none⟩ = some (.int .i64 0) := (blk_cell HXgr2.out 0).trans rfl; have hcs1_w2 : w2.cell? ⟨w.heap.size, 1, none⟩ = some (.int .i64 0) := (blk_cell HXgr2.out 1).trans rfl)
  refine bodyPost_ret (results_list (rs := [.cell 4 83, .tmp 5]) rfl (by simp) (.cell w.heap.size 83 _ (0, 0) _ rfl HXgr2.out Try.underlying83 rfl infoP (.tmp .nil))) rfl ?_
  exact ⟨rfl, HB2.out⟩
set_option maxHeartbeats 8000000 in
set_option maxRecDepth 100000 in
theorem drop_none (base g : Nat) (fv : Value) (A : Option Addr) (cap b : Nat) (l : List It) (c : Int) (key : Kt) (w : World) (h : HAt w base g fv A cap b l c) (hk : okK key) (hi : idxL l key = none) :
    Calls Try.prog 46 #[.pointer (some ⟨g, 0, none⟩), .int .i64 key] w fun e w' => e = .returned (.bool false) ∧ w' = w := by
  have hc2 : w.cell? ⟨g, 2, none⟩ = some (.map (some b)) := (blk_cell h.blk 2).trans rfl
  have hm := h.map.look keyLaw Try.underlying93 (zero_int w) hk
  unfold encK at hm
  rw [hi] at hm
  simp only [Option.getD_none, Option.isSome_none] at hm
  clear h hk hi
  go_enter Try.func46, Try.ntmps46
  go_wp2
  go_ret
  exact ⟨rfl, rfl⟩
set_option maxHeartbeats 8000000 in
set_option maxRecDepth 100000 in
theorem drop_calls (base g f : Nat) (lt : Pt → Pt → Bool) (hlt : Less f lt) (A : Option Addr) (cap b : Nat) (l : List It) (c : Int) (key : Kt) (w : World) (h : HAt w base g (.func (.func f) #[] #[]) A cap b l c) (hk : okK key) {i : Nat} (hi : idxL l key = some i) (hl : l.length ≤ 140737488355328) :
    Calls Try.prog 46 #[.pointer (some ⟨g, 0, none⟩), .int .i64 key] w fun e w' => e = .returned (.bool true) ∧ HAt w' base g (.func (.func f) #[] #[]) A cap b (dropL lt l i) c ∧ Chg (hfp g A b) w w' := by
  obtain ⟨hil, hkey⟩ := idx_some hi
  obtain ⟨gl, rfl⟩ := h.some (by omega)
  obtain ⟨n, hn⟩ : ∃ n, l.length = n + 1 := ⟨l.length - 1, by omega⟩
  have H := Aside0.mk h
  have HLT := Aside0.mk hlt
  have HK := Aside0.mk hk
  have HL := Aside0.mk hl
  have HIX := Aside0.mk hi
  have HI := Aside0.mk hil
  have HKEY := Aside0.mk hkey
  have HN := Aside0.mk hn
  have hc1 : w.cell? ⟨g, 1, none⟩ = some (.slice (some ⟨gl, 0, none⟩) l.length cap) := (blk_cell h.blk 1).trans rfl
  have hc2 : w.cell? ⟨g, 2, none⟩ = some (.map (some b)) := (blk_cell h.blk 2).trans rfl
  have hm := h.map.look keyLaw Try.underlying93 (zero_int w) hk
  unfold encK at hm
  rw [hi] at hm
  simp only [Option.getD_some, Option.isSome_some] at hm
  have hln : (l.length : Int) - 1 = (n : Int) := by omega
  have hnb : (n : Int) ≤ 140737488355328 := by omega
  clear h hlt hk hl hi hil hkey hn
  go_enter Try.func46, Try.ntmps46
  go_wp2_with fail
  refine (swap_calls base g _ _ cap b l c i n w H.out HI.out (by have := HN.out; omega)).mono ?_
  rintro e w1 ⟨rfl, hs, hc⟩
  have HQ1 := Aside0.mk hs
  have HC1 := Aside0.mk hc
  have hcp : (n : Int) ≤ (cap : Int) := by
    obtain ⟨_, hh, _⟩ := Kd.R_reads' hs.row
    rw [swapL_len] at hh
    have := HN.out
    omega
  clear hs hc hc1 hc2 hm
  have HSL : Aside0 ((swapL l i n).length = n + 1) := ⟨by rw [swapL_len]; exact HN.out⟩
  have hc1 : w1.cell? ⟨g, 1, none⟩ = some (.slice (some ⟨gl, 0, none⟩) (n + 1) cap) := by rw [← HSL.out]; exact (blk_cell HQ1.out.blk 1).trans rfl
  have hc2 : w1.cell? ⟨g, 2, none⟩ = some (.map (some b)) := (blk_cell HQ1.out.blk 2).trans rfl
  have hf1 := blk_frozen HQ1.out.blk 1
  go_upto_region 9 with (fail)
  have HTL : Aside0 (((swapL l i n).take n).length = n) := ⟨by rw [List.length_take, HSL.out]; omega⟩
  have HG2 := Aside0.mk (blk_put HQ1.out.blk 1 (.slice (some ⟨gl, 0, none⟩) n cap) rfl)
  have HR2 : Aside0 (kIt.R 98 (w1.setCell ⟨g, 1, none⟩ (.slice (some ⟨gl, 0, none⟩) n cap)) base (fun _ => True) (.slice (some ⟨gl, 0, none⟩) n cap) ((swapL l i n).take n)) := ⟨Kd.R_set (Kd.R_take HQ1.out.row (by rw [HSL.out]; omega)) HQ1.out.blk (by decide) 1 _⟩
  have HM2 : Aside0 (MapAt encK okK (w1.setCell ⟨g, 1, none⟩ (.slice (some ⟨gl, 0, none⟩) n cap)) b (idxL (swapL l i n))) := ⟨HQ1.out.map.move (Below.heap_setCell w1 _ _ _ (fun e => HQ1.out.map.ne HQ1.out.blk e.symm))⟩
  have HC2 : Aside0 (Chg (hfp g (some ⟨gl, 0, none⟩) b) w (w1.setCell ⟨g, 1, none⟩ (.slice (some ⟨gl, 0, none⟩) n cap))) := ⟨HC1.out.setCell (Or.inl (Or.inl rfl)) _⟩
  clear hc1 hc2 hf1 hcp hln
  generalize (w1.setCell ⟨g, 1, none⟩ (.slice (some ⟨gl, 0, none⟩) n cap)) = w2 at HG2 HR2 HM2 HC2 ⊢
  have HQ2 : Aside0 (∀ w3, MapAt encK okK w3 b (rem (idxL (swapL l i n)) key) → w2.grownBy w3 (some b) → HAt w3 base g (.func (.func f) #[] #[]) (some ⟨gl, 0, none⟩) cap b ((swapL l i n).take n) c ∧ Chg (hfp g (some ⟨gl, 0, none⟩) b) w w3) := ⟨fun w3 hm hg => by
    have hne : some g ≠ some b := fun e => by cases e; exact HM2.out.ne HG2.out rfl
    have hr3 : kIt.R 98 w3 base (fun _ => True) (.slice (some ⟨gl, 0, none⟩) n cap) ((swapL l i n).take n) := Kd.R_mono (Kd.R_grown (Kd.R_bound HR2.out) hg (fun k hk e => by
      obtain ⟨_, _, _, q, _, cs, hcs⟩ := hk
      cases e
      exact HM2.out.ne hcs rfl)) (fun _ _ => True.intro)
    have hb3 := blk_grown HG2.out hg hne
    refine ⟨⟨by rw [HTL.out]; exact hb3, by rw [HTL.out]; exact hr3, hm.congr (fun k _ => ?_), H.out.ge, keys_take HQ1.out.keys n, fun y hy => HQ1.out.okk y (List.mem_of_mem_take hy)⟩, HC2.out.trans (Chg.keep (Chg.of_grown hg) (fun k hk _ => by cases hk; exact Or.inr (Or.inl rfl)))⟩
    have e := idx_take HQ1.out.keys HSL.out k
    rw [at_swap_j HI.out (by have := HN.out; omega), HKEY.out] at e
    exact e.symm⟩
  obtain ⟨w3, hdel, hm, hg⟩ := HM2.out.del keyLaw Try.underlying93 HK.out 3 0
  unfold encK at hdel
  have hq3 := HQ2.out w3 hm hg
  have HQ3 := Aside0.mk hq3.1
  have HC3 := Aside0.mk hq3.2
  clear hm hg hq3 HQ2
  have hc2 : w2.cell? ⟨g, 2, none⟩ = some (.map (some b)) := (blk_cell HG2.out 2).trans rfl
  clear HG2 HR2 HM2 HC2
  have e0 : dropL lt l i = if i < n then fixL lt ((swapL l i n).take n) i else (swapL l i n).take n := by
    have : l.length - 1 = n := by have := HN.out; omega
    unfold dropL
    rw [this]
  have HE0 := Aside0.mk e0
  clear e0
  by_cases hin : i < n
  · have hin' : (i : Int) < (n : Int) := by omega
    have HIN := Aside0.mk hin
    clear hin
    go_wp2_with fail
    refine (up_calls base g f lt HLT.out _ _ b ((swapL l i n).take n) _ i w3 HQ3.out (by rw [HTL.out]; exact HIN.out) (by rw [HTL.out]; have := HN.out; have := HL.out; omega)).mono ?_
    rintro e wu ⟨rfl, hu, hcu⟩
    have HU := Aside0.mk hu
    have HCU := Aside0.mk (HC3.out.trans hcu)
    clear hu hcu
    go_wp2_with fail
    refine (down_calls base g f lt HLT.out _ _ b (upL lt i ((swapL l i n).take n) i).1 _ (upL lt i ((swapL l i n).take n) i).2 wu HU.out (by rw [upL_len]; exact Nat.lt_of_le_of_lt (upL_le lt _ _ _) (by rw [HTL.out]; exact HIN.out)) (by rw [upL_len]; exact (by rw [HTL.out]; have := HN.out; have := HL.out; omega))).mono ?_
    rintro e wd ⟨rfl, hd, hcd⟩
    have HD := Aside0.mk hd
    have HCD := Aside0.mk (HCU.out.trans hcd)
    clear hd hcd
    go_wp2
    go_ret
    rw [HE0.out, if_pos HIN.out]
    have e1 : fixL lt ((swapL l i n).take n) i = downL lt (upL lt i ((swapL l i n).take n) i).1.length (upL lt i ((swapL l i n).take n) i).1 (upL lt i ((swapL l i n).take n) i).2 := by
      rw [upL_len]
      rfl
    rw [e1]
    exact ⟨rfl, HD.out, HCD.out⟩
  · have hin' : ¬ (i : Int) < (n : Int) := by omega
    have HIN := Aside0.mk hin
    clear hin
    go_wp2
    go_ret
    rw [HE0.out, if_neg HIN.out]
    exact ⟨rfl, HQ3.out, HC3.out⟩
def pop.T4 : Bool × List (List Nat × List Nat) := (true, [([], []), ([], []), ([], []), ([0, 0], [0]), ([1, 3, 0, 1, 3], [1]), ([2, 4, 0, 1, 2, 3, 4], [2])])
def pop.B4 : List Nat := [0, 0, 0, 1, 11, 31]
theorem pop.tab4 : rtab .any (opsOf Try.f38 4) = pop.T4 := by kernel_rfl
theorem pop.bits4 : waitsOk pop.T4.2 pop.B4 = true := by kernel_rfl
set_option maxHeartbeats 8000000 in
set_option maxRecDepth 100000 in
theorem pop_calls (base g f : Nat) (lt : Pt → Pt → Bool) (hlt : Less f lt) (A : Option Addr) (cap b : Nat) (l : List It) (c : Int) (w : World) (h : HAt w base g (.func (.func f) #[] #[]) A cap b l c) (h0 : 0 < l.length) (hl : l.length ≤ 140737488355328) :
    Calls Try.prog 38 #[.pointer (some ⟨g, 0, none⟩)] w fun e w' => e = .returned (.tuple #[.int .i64 (at_ l 0).1, .agg #[.int .i64 (at_ l 0).2.1.1, .int .i64 (at_ l 0).2.1.2], .bool true]) ∧ HAt w' base g (.func (.func f) #[] #[]) A cap b (dropL lt l 0) c ∧ Chg (hfp g A b) w w' := by
  have H := Aside0.mk h
  have HLT := Aside0.mk hlt
  have HL := Aside0.mk hl
  have HZ := Aside0.mk h0
  clear h hlt hl h0
  go_enter Try.func38, Try.ntmps38
  go_wp2_with fail
  have HB0 : Aside0 (Below w.heap.size w w) := ⟨Below.refl _ _⟩
  have HXgr : Aside0 ((w.alloc (.cells #[.int .i64 0, .int .i64 0] 83)).heap[w.heap.size]? = some (.cells #[.int .i64 0, .int .i64 0] 83 (0, 0))) := ⟨blk_new _ _⟩
  have HB1 := Aside0.mk (below_alloc HB0.out (.cells #[.int .i64 0, .int .i64 0] 83))
  clear HB0
  have HQ := Aside0.mk (H.out.below HB1.out)
  have HBB := HB1
  clear HB1
  generalize (w.alloc (.cells #[.int .i64 0, .int .i64 0] 83)) = wB at HXgr HQ HBB ⊢
  refine (first_calls base g _ A cap b l c wB HQ.out HZ.out).mono ?_
  rintro e w1 ⟨rfl, hb⟩
  have HQ1 := Aside0.mk (HQ.out.below hb)
  have HB1 := Aside0.mk (below_step HBB.out hb)
  have HXgr1 := Aside0.mk ((hb.block _ (blk_lt HXgr.out)).trans HXgr.out)
  clear hb HQ HBB HXgr
  have HFL : Aside0 (∀ k, hfp g A b k → k < w.heap.size) := ⟨H.out.fp_lt⟩
  go_wp2_with ((with_reducible refine gate_store (t := 83) (p := 3) (v := .tmp 9) rfl ?_); refine wpList_store_row rfl 83 (.tmp 3) (.tmp 9) rfl w.heap.size #[.int .i64 (at_ l 0).2.1.1, .int .i64 (at_ l 0).2.1.2] rfl rfl _ _ HXgr1.out infoP rfl (by simp [Value.oneCell']) ?_; have hs := chg_row (cs := #[.int .i64 (at_ l 0).2.1.1, .int .i64 (at_ l 0).2.1.2]) HXgr1.out; have HXgr2 := Aside0.mk hs.1; have HQ2 := Aside0.mk (HQ1.out.below0 (fun k hk => hs.2.block k (HQ1.out.fp_lt k hk) (fun e => by have e' : k = w.heap.size := e; have := HFL.out k hk; omega))); have HB2 := Aside0.mk (HB1.out.trans (hs.2.below HB1.out.size (fun k hk => by have e : k = w.heap.size := hk; omega))); clear HQ1 HB1; clear hs; generalize w1.setRow w.heap.size #[.int .i64 (at_ l 0).2.1.1, .int .i64 (at_ l 0).2.1.2] = w2 at HXgr2 HQ2 HB2 ⊢; have hcs0_w2 : w2.cell? ⟨w.heap.size, 0, none⟩ = some (.int .i64 (at_ l 0).2.1.1) := (blk_cell HXgr2.out 0).trans rfl; have hcs1_w2 : w2.cell? ⟨w.heap.size, 1, none⟩ = some (.int .i64 (at_ l 0).2.1.2) := (blk_cell HXgr2.out 1).trans rfl)
  refine (drop_calls base g f lt HLT.out A cap b l c _ w2 HQ2.out (H.out.okk _ (at_mem HZ.out)) (idx_at H.out.keys HZ.out) HL.out).mono ?_
  rintro e w3 ⟨rfl, hd, hc⟩
  have HD3 := Aside0.mk hd
  have HC3 := Aside0.mk ((Chg.of_below (F := hfp g A b) (HB2.out)).trans hc)
  have HXgr3 := Aside0.mk (hc.heap HXgr2.out (fun e => by have := HFL.out _ e; omega))
  clear hd hc HQ2 HB2 HXgr2 hcs0_w2 hcs1_w2
  have hcc0 : w3.cell? ⟨w.heap.size, 0, none⟩ = some (.int .i64 (at_ l 0).2.1.1) := (blk_cell HXgr3.out 0).trans rfl
  have hcc1 : w3.cell? ⟨w.heap.size, 1, none⟩ = some (.int .i64 (at_ l 0).2.1.2) := (blk_cell HXgr3.out 1).trans rfl
  go_wp2_with fail
  have HXgr5 : Aside0 (w3.drew.heap[w.heap.size]? = _) := ⟨HXgr3.out⟩
  have HD5 : Aside0 (HAt w3.drew base g (.func (.func f) #[] #[]) A cap b (dropL lt l 0) c) := ⟨HD3.out.below (below_drew1 (Below.refl _ _))⟩
  have HC5 : Aside0 (Chg (hfp g A b) w w3.drew) := ⟨HC3.out.trans (Chg.of_below (below_drew1 (Below.refl _ _)))⟩
  clear HD3 HC3 HXgr3
  clear hcc0 hcc1
  refine start_ (n := 6) (S := fun w' => w'.cell? ⟨w.heap.size, 0, none⟩ = some (.int .i64 (at_ l 0).2.1.1) ∧ w'.cell? ⟨w.heap.size, 1, none⟩ = some (.int .i64 (at_ l 0).2.1.2)) (ds := [4]) #[false, false, false, false, false, false] (by kernel_rfl) rfl rfl ⟨(blk_cell HXgr5.out 0).trans rfl, (blk_cell HXgr5.out 1).trans rfl⟩ (fun hHeld => ?_)
  refine with_tabW pop.tab4 pop.bits4 (fun HT_ HW_ => ?_)
  generalize w3.drew = w5 at HXgr5 HD5 HC5 hHeld ⊢
  refine pure_ (i := 0) (N := some 15) (v := ?_) (a' := ?_) #[true, false, false, false, false, false] rfl rfl (any_of HT_.out (by kernel_rfl)) (fun _ _ _ h => h) (Or.inl ⟨by rfl, ?_⟩) ?_ ?_
  rotate_left; exact slv; rotate_left; exact sla
  refine pure_ (i := 2) (N := some 17) (v := ?_) (a' := ?_) #[true, false, true, false, false, false] rfl rfl (any_of HT_.out (by kernel_rfl)) (fun _ _ _ h => h) (Or.inl ⟨by rfl, ?_⟩) ?_ ?_
  rotate_left; exact slv; rotate_left; exact sla
  refine pure_ (i := 3) (N := some 2) (v := ?_) (a' := ?_) #[true, false, true, true, false, false] rfl rfl (any_of HT_.out (by kernel_rfl)) (fun _ _ _ h => h) (Or.inl ⟨by rfl, ?_⟩) ?_ ?_
  rotate_left; exact slv; rotate_left; exact sla
  refine take_ (i := 1) (N := some 16) (v := ?_) (a' := ?_) #[true, true, true, true, false, false] rfl rfl (take_ofW HT_.out HW_.out (by kernel_rfl)) (fun _ _ _ h => h) (Or.inl ⟨by rfl, ?_⟩) hHeld ?_ ?_
  rotate_left; exact slt2; rotate_left; exact sla
  refine last_ (i := 4) (N := none) #[true, true, true, true, true, false] rfl rfl (one_of HT_.out (by kernel_rfl)) (by decide) (fun K hK => ?_)
  refine rowstore_ (by rfl) rfl 83 (.tmp 3) (.tmp 16) rfl w.heap.size #[.int .i64 (at_ l 0).2.1.1, .int .i64 (at_ l 0).2.1.2] (by rfl) (by rfl) _ _ HXgr5.out infoP rfl (by simp [Value.oneCell']) ?_
  have hs := chg_row (cs := #[.int .i64 (at_ l 0).2.1.1, .int .i64 (at_ l 0).2.1.2]) HXgr5.out
  have HXgr4 := Aside0.mk hs.1
  have HD4 := Aside0.mk (HD5.out.below0 (fun k hk => hs.2.block k (HD5.out.fp_lt k hk) (fun e => by have e' : k = w.heap.size := e; have := HFL.out k hk; omega)))
  have HC4 := Aside0.mk (HC5.out.then hs.2 (fun k hk => Or.inr (by have e : k = w.heap.size := hk; omega)))
  clear HD5 HC5
  clear hs HXgr5
  generalize w5.setRow w.heap.size #[.int .i64 (at_ l 0).2.1.1, .int .i64 (at_ l 0).2.1.2] = w4 at HXgr4 HD4 HC4 ⊢
  refine hK.out _ _ ?_
  clear hK K
  refine pure_ (i := 5) (N := some 4) (v := ?_) (a' := ?_) #[true, true, true, true, true, true] rfl rfl (any_of HT_.out (by kernel_rfl)) (fun _ _ _ h => h) (Or.inl ⟨by rfl, ?_⟩) ?_ ?_
  rotate_left; exact slv; rotate_left; exact sla
  refine done_ (done_of HT_.out (by kernel_rfl)) ?_
  try clear hHeld
  try go_wp2
  refine bodyPost_ret (results_list (rs := [.tmp 2, .cell 3 83, .tmp 4]) rfl (by simp) (.tmp (.cell w.heap.size 83 _ (0, 0) _ rfl HXgr4.out Try.underlying83 rfl infoP (.tmp .nil)))) rfl ?_
  exact ⟨rfl, HD4.out, HC4.out⟩
set_option maxHeartbeats 8000000 in
set_option maxRecDepth 100000 in
theorem pop_none (base g : Nat) (fv : Value) (A : Option Addr) (cap b : Nat) (c : Int) (w : World) (h : HAt w base g fv A cap b [] c) :
    Calls Try.prog 38 #[.pointer (some ⟨g, 0, none⟩)] w fun e w' => e = .returned (.tuple #[.int .i64 0, .agg #[.int .i64 0, .int .i64 0], .bool false]) ∧ Below w.heap.size w w' := by
  have H := Aside0.mk h
  clear h
  go_enter Try.func38, Try.ntmps38
  go_wp2_with fail
  have HB0 : Aside0 (Below w.heap.size w w) := ⟨Below.refl _ _⟩
  have HXgr : Aside0 ((w.alloc (.cells #[.int .i64 0, .int .i64 0] 83)).heap[w.heap.size]? = some (.cells #[.int .i64 0, .int .i64 0] 83 (0, 0))) := ⟨blk_new _ _⟩
  have HB1 := Aside0.mk (below_alloc HB0.out (.cells #[.int .i64 0, .int .i64 0] 83))
  clear HB0
  have HQ := Aside0.mk (H.out.below HB1.out)
  have HBB := HB1
  clear HB1
  generalize (w.alloc (.cells #[.int .i64 0, .int .i64 0] 83)) = wB at HXgr HQ HBB ⊢
  refine (first_none base g _ A cap b c wB HQ.out).mono ?_
  rintro e w1 ⟨rfl, hb⟩
  have HQ1 := Aside0.mk (HQ.out.below hb)
  have HB1 := Aside0.mk (below_step HBB.out hb)
  have HXgr1 := Aside0.mk ((hb.block _ (blk_lt HXgr.out)).trans HXgr.out)
  clear hb HQ HBB HXgr
  have HFL : Aside0 (∀ k, hfp g A b k → k < w.heap.size) := ⟨H.out.fp_lt⟩
  go_wp2_with ((with_reducible refine gate_store (t := 83) (p := 3) (v := .tmp 9) rfl ?_); refine wpList_store_row rfl 83 (.tmp 3) (.tmp 9) rfl w.heap.size #[.int .i64 0, .int .i64 0] rfl rfl _ _ HXgr1.out infoP rfl (by simp [Value.oneCell']) ?_; have hs := chg_row (cs := #[.int .i64 0, .int .i64 0]) HXgr1.out; have HXgr2 := Aside0.mk hs.1; have HQ2 := Aside0.mk (HQ1.out.below0 (fun k hk => hs.2.block k (HQ1.out.fp_lt k hk) (fun e => by have e' : k = w.heap.size := e; have := HFL.out k hk; omega))); have HB2 := Aside0.mk (HB1.out.trans (hs.2.below HB1.out.size (fun k hk => by have e : k = w.heap.size := hk; omega))); clear HQ1 HB1; clear hs; generalize w1.setRow w.heap.size #[.int .i64 0, .int .i64 0] = w2 at HXgr2 HQ2 HB2 ⊢; have hcs0_w2 : w2.cell? ⟨w.heap.size, 0, none⟩ = some (.int .i64 0) := (blk_cell HXgr2.out 0).trans rfl; have hcs1_w2 : w2.cell? ⟨w.heap.size, 1, none⟩ = some (.int .i64 0) := (blk_cell HXgr2.out 1).trans rfl)
  have HD3 := HQ2
  have HB3 := HB2
  have HXgr3 := HXgr2
  clear HQ2 HB2 HXgr2
  generalize w2 = w3 at HD3 HB3 HXgr3 hcs0_w2 hcs1_w2 ⊢
  have HXgr5 : Aside0 (w3.drew.heap[w.heap.size]? = _) := ⟨HXgr3.out⟩
  have HB5 : Aside0 (Below w.heap.size w w3.drew) := ⟨below_drew HB3.out⟩
  clear HB3 HD3 HXgr3
  clear hcs0_w2 hcs1_w2
  refine start_ (n := 6) (S := fun w' => w'.cell? ⟨w.heap.size, 0, none⟩ = some (.int .i64 0) ∧ w'.cell? ⟨w.heap.size, 1, none⟩ = some (.int .i64 0)) (ds := [4]) #[false, false, false, false, false, false] (by kernel_rfl) rfl rfl ⟨(blk_cell HXgr5.out 0).trans rfl, (blk_cell HXgr5.out 1).trans rfl⟩ (fun hHeld => ?_)
  refine with_tabW pop.tab4 pop.bits4 (fun HT_ HW_ => ?_)
  generalize w3.drew = w5 at HXgr5 HB5 hHeld ⊢
  refine pure_ (i := 0) (N := some 15) (v := ?_) (a' := ?_) #[true, false, false, false, false, false] rfl rfl (any_of HT_.out (by kernel_rfl)) (fun _ _ _ h => h) (Or.inl ⟨by rfl, ?_⟩) ?_ ?_
  rotate_left; exact slv; rotate_left; exact sla
  refine pure_ (i := 2) (N := some 17) (v := ?_) (a' := ?_) #[true, false, true, false, false, false] rfl rfl (any_of HT_.out (by kernel_rfl)) (fun _ _ _ h => h) (Or.inl ⟨by rfl, ?_⟩) ?_ ?_
  rotate_left; exact slv; rotate_left; exact sla
  refine pure_ (i := 3) (N := some 2) (v := ?_) (a' := ?_) #[true, false, true, true, false, false] rfl rfl (any_of HT_.out (by kernel_rfl)) (fun _ _ _ h => h) (Or.inl ⟨by rfl, ?_⟩) ?_ ?_
  rotate_left; exact slv; rotate_left; exact sla
  refine take_ (i := 1) (N := some 16) (v := ?_) (a' := ?_) #[true, true, true, true, false, false] rfl rfl (take_ofW HT_.out HW_.out (by kernel_rfl)) (fun _ _ _ h => h) (Or.inl ⟨by rfl, ?_⟩) hHeld ?_ ?_
  rotate_left; exact slt2; rotate_left; exact sla
  refine last_ (i := 4) (N := none) #[true, true, true, true, true, false] rfl rfl (one_of HT_.out (by kernel_rfl)) (by decide) (fun K hK => ?_)
  refine rowstore_ (by rfl) rfl 83 (.tmp 3) (.tmp 16) rfl w.heap.size #[.int .i64 0, .int .i64 0] (by rfl) (by rfl) _ _ HXgr5.out infoP rfl (by simp [Value.oneCell']) ?_
  have hs := chg_row (cs := #[.int .i64 0, .int .i64 0]) HXgr5.out
  have HXgr4 := Aside0.mk hs.1
  have HB4 := Aside0.mk (HB5.out.trans (hs.2.below HB5.out.size (fun k hk => by have e : k = w.heap.size := hk; omega)))
  clear HB5
  clear hs HXgr5
  generalize w5.setRow w.heap.size #[.int .i64 0, .int .i64 0] = w4 at HXgr4 HB4 ⊢
  refine hK.out _ _ ?_
  clear hK K
  refine pure_ (i := 5) (N := some 4) (v := ?_) (a' := ?_) #[true, true, true, true, true, true] rfl rfl (any_of HT_.out (by kernel_rfl)) (fun _ _ _ h => h) (Or.inl ⟨by rfl, ?_⟩) ?_ ?_
  rotate_left; exact slv; rotate_left; exact sla
  refine done_ (done_of HT_.out (by kernel_rfl)) ?_
  try clear hHeld
  try go_wp2
  refine bodyPost_ret (results_list (rs := [.tmp 2, .cell 3 83, .tmp 4]) rfl (by simp) (.tmp (.cell w.heap.size 83 _ (0, 0) _ rfl HXgr4.out Try.underlying83 rfl infoP (.tmp .nil)))) rfl ?_
  exact ⟨rfl, HB4.out⟩
end Go.Proofs.Ytgbfhhmmkhjhhaa.HeapIR
