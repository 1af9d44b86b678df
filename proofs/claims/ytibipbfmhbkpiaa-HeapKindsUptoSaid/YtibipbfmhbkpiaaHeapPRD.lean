/- What a heap's methods do: HeapPR, lens,first,rank. Conditions: those that stand in each theorem. Written by wip/gen/heapg.py. -/
import Derived.Test.YtibipbfmhbkpiaaHeapPRB
namespace Go.Proofs.Ytibipbfmhbkpiaa.HeapPR
open Go.RowKit Go.Proofs.YtibipbfmhbkpiaaW.PrintWords Go.Proofs.YtibipbfmhbkpiaaW.PrintLast Go.Proofs.YtibipbfmhbkpiaaW.PrintMore Go.Proofs.Ytibipbfmhbkpiaa.HeapW Go.Proofs.Ytibipbfmhbkpiaa.HeapP Go.Proofs.Ytibipbfmhbkpiaa.MapAt
set_option linter.unusedVariables false
set_option linter.unusedSimpArgs false
set_option maxHeartbeats 8000000 in
set_option maxRecDepth 100000 in
theorem len_calls (base g : Nat) (fv : Value) (A : Option Addr) (cap b : Nat) (l : List It) (c : Int) (w : World) (h : HAt w base g fv A cap b l c) :
    Calls Try.prog 62 #[.pointer (some ⟨g, 0, none⟩)] w fun e w' => e = .returned (.int .i64 l.length) ∧ w' = w := by
  have hc1 : w.cell? ⟨g, 1, none⟩ = some (.slice A l.length cap) := (blk_cell h.blk 1).trans rfl
  clear h
  go_enter Try.func62, Try.ntmps62
  go_wp2
  go_ret
  exact ⟨rfl, rfl⟩
def first.T2 : Bool × List (List Nat × List Nat) := (true, [([], []), ([], []), ([0, 0], [0]), ([1, 2, 0, 1, 2], [1]), ([3, 0, 1, 2, 3], [])])
def first.B2 : List Nat := [0, 0, 1, 7, 15]
theorem first.tab2 : rtab .any (opsOf Try.f26 2) = first.T2 := by kernel_rfl
theorem first.bits2 : waitsOk first.T2.2 first.B2 = true := by kernel_rfl
def first.T3 : Bool × List (List Nat × List Nat) := (true, [([], []), ([0], [0]), ([1], [1]), ([2], [2]), ([3], [3]), ([4], [4]), ([5], [5]), ([], []), ([7], [7]), ([8], [8]), ([9], [9]), ([10], [10]), ([11], [11]), ([12], [12]), ([6, 0, 1, 2, 3, 4, 5, 6], [6]), ([13, 14, 0, 1, 2, 3, 4, 5, 6, 7, 8, 9, 10, 11, 12, 13, 14], [13]), ([15, 0, 1, 2, 3, 4, 5, 6, 7, 8, 9, 10, 11, 12, 13, 14, 15], [])])
def first.B3 : List Nat := [0, 1, 3, 7, 15, 31, 63, 0, 128, 384, 896, 1920, 3968, 8064, 127, 32767, 65535]
theorem first.tab3 : rtab .any (opsOf Try.f26 3) = first.T3 := by kernel_rfl
theorem first.bits3 : waitsOk first.T3.2 first.B3 = true := by kernel_rfl
set_option maxHeartbeats 8000000 in
set_option maxRecDepth 100000 in
theorem first_calls (base g : Nat) (fv : Value) (A : Option Addr) (cap b : Nat) (l : List It) (c : Int) (w : World) (h : HAt w base g fv A cap b l c) (hl : 0 < l.length) :
    Calls Try.prog 26 #[.pointer (some ⟨g, 0, none⟩)] w fun e w' => e = .returned (.tuple #[.agg #[.int .i16 (at_ l 0).1.1, .int .i16 (at_ l 0).1.2], .agg #[.int .i64 (at_ l 0).2.1.1, .int .i64 (at_ l 0).2.1.2], .bool true]) ∧ Below w.heap.size w w' := by
  obtain ⟨gl, rfl⟩ := h.some hl
  have hne : ((l.length : Int) == 0) = false := beq_eq_false_iff_ne.mpr (by omega)
  have hll : (0 : Int) < l.length := by omega
  have H := Aside0.mk h
  have HS : Aside0 (∀ w', Below w.heap.size w w' → w'.cell? ⟨g, 1, none⟩ = some (.slice (some ⟨gl, 0, none⟩) l.length cap) ∧ w'.cell? ⟨gl, 0, none⟩ = some (.int .i16 (at_ l 0).1.1) ∧ w'.cell? ⟨gl, 1, none⟩ = some (.int .i16 (at_ l 0).1.2) ∧ w'.cell? ⟨gl, 2, none⟩ = some (.int .i64 (at_ l 0).2.1.1) ∧ w'.cell? ⟨gl, 3, none⟩ = some (.int .i64 (at_ l 0).2.1.2) ∧ w'.cell? ⟨gl, 4, none⟩ = some (.int .i64 (at_ l 0).2.2)) := ⟨fun w' hb => by
    obtain ⟨i0, i1, i2, i3, i4, _⟩ := item_cells h.row hl
    rw [Nat.zero_mul] at i0 i1 i2 i3 i4
    exact ⟨pw_cell_below hb ((blk_cell h.blk 1).trans rfl), pw_cell_below hb i0, pw_cell_below hb i1, pw_cell_below hb i2, pw_cell_below hb i3, pw_cell_below hb i4⟩⟩
  clear h
  go_enter Try.func26, Try.ntmps26
  go_wp2_with fail
  have HB0 : Aside0 (Below w.heap.size w w) := ⟨Below.refl _ _⟩
  have HXgk : Aside0 ((w.alloc (.cells #[.int .i16 0, .int .i16 0] 66)).heap[w.heap.size]? = some (.cells #[.int .i16 0, .int .i16 0] 66 (0, 0))) := ⟨blk_new _ _⟩
  have HB1 := Aside0.mk (below_alloc HB0.out (.cells #[.int .i16 0, .int .i16 0] 66))
  have HXgr : Aside0 (((w.alloc (.cells #[.int .i16 0, .int .i16 0] 66)).alloc (.cells #[.int .i64 0, .int .i64 0] 68)).heap[(w.alloc (.cells #[.int .i16 0, .int .i16 0] 66)).heap.size]? = some (.cells #[.int .i64 0, .int .i64 0] 68 (0, 0))) := ⟨blk_new _ _⟩
  have HXgk' := Aside0.mk (blk_alloc HXgk.out (.cells #[.int .i64 0, .int .i64 0] 68))
  clear HXgk
  have HXgk := HXgk'
  clear HXgk'
  have HB2 := Aside0.mk (below_alloc HB1.out (.cells #[.int .i64 0, .int .i64 0] 68))
  have HQ := Aside0.mk (H.out.below HB2.out)
  have HSZ : Aside0 True := ⟨trivial⟩
  have HXgr' : Aside0 (((w.alloc (.cells #[.int .i16 0, .int .i16 0] 66)).alloc (.cells #[.int .i64 0, .int .i64 0] 68)).heap[w.heap.size + 1]? = some (.cells #[.int .i64 0, .int .i64 0] 68 (0, 0))) := ⟨by have h := HXgr.out; rw [World.size_alloc] at h; exact h⟩
  clear HXgr
  have HXgr := HXgr'
  clear HXgr'
  have HBB := HB2
  clear HB0 HB1 HB2
  generalize ((w.alloc (.cells #[.int .i16 0, .int .i16 0] 66)).alloc (.cells #[.int .i64 0, .int .i64 0] 68)) = wB at HXgk HXgr HQ HBB ⊢
  refine (len_calls base g fv _ cap b l c wB HQ.out).mono ?_
  rintro e w1 ⟨rfl, hw_⟩
  replace hw_ := hw_.symm
  subst hw_
  go_wp2_with fail
  have HXgk1 : Aside0 (wB.drew.heap[w.heap.size]? = _) := ⟨HXgk.out⟩
  have HXgr1 : Aside0 (wB.drew.heap[(w.heap.size + 1)]? = _) := ⟨HXgr.out⟩
  have HB1 : Aside0 (Below w.heap.size w wB.drew) := ⟨below_drew HBB.out⟩
  clear HBB HQ HXgk HXgr
  refine start_ (n := 17) (S := fun w' => w'.cell? ⟨g, 1, none⟩ = some (.slice (some ⟨gl, 0, none⟩) l.length cap) ∧ w'.cell? ⟨gl, 0, none⟩ = some (.int .i16 (at_ l 0).1.1) ∧ w'.cell? ⟨gl, 1, none⟩ = some (.int .i16 (at_ l 0).1.2) ∧ w'.cell? ⟨gl, 2, none⟩ = some (.int .i64 (at_ l 0).2.1.1) ∧ w'.cell? ⟨gl, 3, none⟩ = some (.int .i64 (at_ l 0).2.1.2) ∧ w'.cell? ⟨gl, 4, none⟩ = some (.int .i64 (at_ l 0).2.2)) (ds := []) #[false, false, false, false, false, false, false, false, false, false, false, false, false, false, false, false, false] (by kernel_rfl) rfl rfl ⟨(HS.out _ HB1.out).1, (HS.out _ HB1.out).2.1, (HS.out _ HB1.out).2.2.1, (HS.out _ HB1.out).2.2.2.1, (HS.out _ HB1.out).2.2.2.2.1, (HS.out _ HB1.out).2.2.2.2.2⟩ (fun hHeld => ?_)
  refine with_tabW first.tab3 first.bits3 (fun HT_ HW_ => ?_)
  generalize wB.drew = w1 at HB1 HXgk1 HXgr1 hHeld ⊢
  refine pure_ (i := 0) (N := some 10) (v := ?_) (a' := ?_) #[true, false, false, false, false, false, false, false, false, false, false, false, false, false, false, false, false] rfl rfl (any_of HT_.out (by kernel_rfl)) (fun _ _ _ h => h) (Or.inl ⟨by rfl, ?_⟩) ?_ ?_
  rotate_left
  · intro w'
    go_simp
    with_reducible rfl
  rotate_left
  · simp only [Act.put, List.setIfInBounds_toArray, List.set_cons_zero, List.set_cons_succ, i64_w, i32_w]
    rfl
  refine pure_ (i := 1) (N := some 11) (v := ?_) (a' := ?_) #[true, true, false, false, false, false, false, false, false, false, false, false, false, false, false, false, false] rfl rfl (any_of HT_.out (by kernel_rfl)) (fun _ _ _ h => h) (Or.inl ⟨by rfl, ?_⟩) ?_ ?_
  rotate_left
  · intro w'
    go_simp
    with_reducible rfl
  rotate_left
  · simp only [Act.put, List.setIfInBounds_toArray, List.set_cons_zero, List.set_cons_succ, i64_w, i32_w]
    rfl
  refine pure_ (i := 2) (N := some 12) (v := ?_) (a' := ?_) #[true, true, true, false, false, false, false, false, false, false, false, false, false, false, false, false, false] rfl rfl (any_of HT_.out (by kernel_rfl)) (fun _ _ _ h => h) (Or.inl ⟨by rfl, ?_⟩) ?_ ?_
  rotate_left
  · intro w'
    go_simp
    with_reducible rfl
  rotate_left
  · simp only [Act.put, List.setIfInBounds_toArray, List.set_cons_zero, List.set_cons_succ, i64_w, i32_w]
    rfl
  refine pure_ (i := 7) (N := some 17) (v := ?_) (a' := ?_) #[true, true, true, false, false, false, false, true, false, false, false, false, false, false, false, false, false] rfl rfl (any_of HT_.out (by kernel_rfl)) (fun _ _ _ h => h) (Or.inl ⟨by rfl, ?_⟩) ?_ ?_
  rotate_left
  · intro w'
    go_simp
    with_reducible rfl
  rotate_left
  · simp only [Act.put, List.setIfInBounds_toArray, List.set_cons_zero, List.set_cons_succ, i64_w, i32_w]
    rfl
  refine pure_ (i := 8) (N := some 18) (v := ?_) (a' := ?_) #[true, true, true, false, false, false, false, true, true, false, false, false, false, false, false, false, false] rfl rfl (any_of HT_.out (by kernel_rfl)) (fun _ _ _ h => h) (Or.inl ⟨by rfl, ?_⟩) ?_ ?_
  rotate_left
  · intro w'
    go_simp
    with_reducible rfl
  rotate_left
  · simp only [Act.put, List.setIfInBounds_toArray, List.set_cons_zero, List.set_cons_succ, i64_w, i32_w]
    rfl
  refine pure_ (i := 9) (N := some 19) (v := ?_) (a' := ?_) #[true, true, true, false, false, false, false, true, true, true, false, false, false, false, false, false, false] rfl rfl (any_of HT_.out (by kernel_rfl)) (fun _ _ _ h => h) (Or.inl ⟨by rfl, ?_⟩) ?_ ?_
  rotate_left
  · intro w'
    go_simp
    with_reducible rfl
  rotate_left
  · simp only [Act.put, List.setIfInBounds_toArray, List.set_cons_zero, List.set_cons_succ, i64_w, i32_w]
    rfl
  refine take_ (i := 3) (N := some 13) (v := ?_) (a' := ?_) #[true, true, true, true, false, false, false, true, true, true, false, false, false, false, false, false, false] rfl rfl (take_ofW HT_.out HW_.out (by kernel_rfl)) (fun _ _ _ h => h) (Or.inl ⟨by rfl, ?_⟩) hHeld ?_ ?_
  rotate_left
  · rintro w' ⟨s0, s1, s2, s3, s4, s5⟩
    go_simp
    with_reducible rfl
  rotate_left
  · simp only [Act.put, List.setIfInBounds_toArray, List.set_cons_zero, List.set_cons_succ, i64_w, i32_w]
    rfl
  refine pure_ (i := 4) (N := some 14) (v := ?_) (a' := ?_) #[true, true, true, true, true, false, false, true, true, true, false, false, false, false, false, false, false] rfl rfl (any_of HT_.out (by kernel_rfl)) (fun _ _ _ h => h) (Or.inl ⟨by rfl, ?_⟩) ?_ ?_
  rotate_left
  · intro w'
    go_simp
    with_reducible rfl
  rotate_left
  · simp only [Act.put, List.setIfInBounds_toArray, List.set_cons_zero, List.set_cons_succ, i64_w, i32_w]
    rfl
  refine pure_ (i := 5) (N := some 15) (v := ?_) (a' := ?_) #[true, true, true, true, true, true, false, true, true, true, false, false, false, false, false, false, false] rfl rfl (any_of HT_.out (by kernel_rfl)) (fun _ _ _ h => h) (Or.inl ⟨by rfl, ?_⟩) ?_ ?_
  rotate_left
  · intro w'
    go_simp
    with_reducible rfl
  rotate_left
  · simp only [Act.put, List.setIfInBounds_toArray, List.set_cons_zero, List.set_cons_succ, i64_w, i32_w]
    rfl
  refine take_ (i := 6) (N := some 16) (v := ?_) (a' := ?_) #[true, true, true, true, true, true, true, true, true, true, false, false, false, false, false, false, false] rfl rfl (take_ofW HT_.out HW_.out (by kernel_rfl)) (fun _ _ _ h => h) (Or.inl ⟨by rfl, ?_⟩) hHeld ?_ ?_
  rotate_left
  · rintro w' ⟨s0, s1, s2, s3, s4, s5⟩
    go_simp
    with_reducible rfl
  rotate_left
  · simp only [Act.put, List.setIfInBounds_toArray, List.set_cons_zero, List.set_cons_succ, i64_w, i32_w]
    rfl
  refine take_ (i := 10) (N := some 20) (v := ?_) (a' := ?_) #[true, true, true, true, true, true, true, true, true, true, true, false, false, false, false, false, false] rfl rfl (take_ofW HT_.out HW_.out (by kernel_rfl)) (fun _ _ _ h => h) (Or.inl ⟨by rfl, ?_⟩) hHeld ?_ ?_
  rotate_left
  · rintro w' ⟨s0, s1, s2, s3, s4, s5⟩
    go_simp
    with_reducible rfl
  rotate_left
  · simp only [Act.put, List.setIfInBounds_toArray, List.set_cons_zero, List.set_cons_succ, i64_w, i32_w]
    rfl
  refine pure_ (i := 11) (N := some 21) (v := ?_) (a' := ?_) #[true, true, true, true, true, true, true, true, true, true, true, true, false, false, false, false, false] rfl rfl (any_of HT_.out (by kernel_rfl)) (fun _ _ _ h => h) (Or.inl ⟨by rfl, ?_⟩) ?_ ?_
  rotate_left
  · intro w'
    go_simp
    with_reducible rfl
  rotate_left
  · simp only [Act.put, List.setIfInBounds_toArray, List.set_cons_zero, List.set_cons_succ, i64_w, i32_w]
    rfl
  refine pure_ (i := 12) (N := some 22) (v := ?_) (a' := ?_) #[true, true, true, true, true, true, true, true, true, true, true, true, true, false, false, false, false] rfl rfl (any_of HT_.out (by kernel_rfl)) (fun _ _ _ h => h) (Or.inl ⟨by rfl, ?_⟩) ?_ ?_
  rotate_left
  · intro w'
    go_simp
    with_reducible rfl
  rotate_left
  · simp only [Act.put, List.setIfInBounds_toArray, List.set_cons_zero, List.set_cons_succ, i64_w, i32_w]
    rfl
  refine take_ (i := 13) (N := some 23) (v := ?_) (a' := ?_) #[true, true, true, true, true, true, true, true, true, true, true, true, true, true, false, false, false] rfl rfl (take_ofW HT_.out HW_.out (by kernel_rfl)) (fun _ _ _ h => h) (Or.inl ⟨by rfl, ?_⟩) hHeld ?_ ?_
  rotate_left
  · rintro w' ⟨s0, s1, s2, s3, s4, s5⟩
    go_simp
    with_reducible rfl
  rotate_left
  · simp only [Act.put, List.setIfInBounds_toArray, List.set_cons_zero, List.set_cons_succ, i64_w, i32_w]
    rfl
  refine one_ (i := 14) (N := none) #[true, true, true, true, true, true, true, true, true, true, true, true, true, true, true, false, false] rfl rfl (one_of HT_.out (by kernel_rfl)) (by decide) (fun K hK => ?_)
  refine rowstore_ (by rfl) rfl 66 (.tmp 2) (.tmp 16) rfl w.heap.size #[.int .i16 (at_ l 0).1.1, .int .i16 (at_ l 0).1.2] (by rfl) (by rfl) _ _ HXgk1.out infoK rfl (by simp [Value.oneCell']) ?_
  have hs := chg_row (cs := #[.int .i16 (at_ l 0).1.1, .int .i16 (at_ l 0).1.2]) HXgk1.out
  have HXgk2 := Aside0.mk hs.1
  have HXgr2 := Aside0.mk (hs.2.heap HXgr1.out (fun e => by have e' : (w.heap.size + 1) = w.heap.size := e; have := HSZ.out; omega))
  have HB2 : Aside0 (Below w.heap.size w _) := ⟨HB1.out.trans (hs.2.below HB1.out.size (fun k hk => by have e : k = w.heap.size := hk; have := HSZ.out; omega))⟩
  clear hs HB1 HXgk1 HXgr1
  generalize w1.setRow w.heap.size #[.int .i16 (at_ l 0).1.1, .int .i16 (at_ l 0).1.2] = w2 at HB2 HXgk2 HXgr2 ⊢
  refine hK.out _ _ ⟨(HS.out _ HB2.out).1, (HS.out _ HB2.out).2.1, (HS.out _ HB2.out).2.2.1, (HS.out _ HB2.out).2.2.2.1, (HS.out _ HB2.out).2.2.2.2.1, (HS.out _ HB2.out).2.2.2.2.2⟩ (fun hHeld => ?_)
  clear hK K
  refine one_ (i := 15) (N := none) #[true, true, true, true, true, true, true, true, true, true, true, true, true, true, true, true, false] rfl rfl (one_of HT_.out (by kernel_rfl)) (by decide) (fun K hK => ?_)
  refine rowstore_ (by rfl) rfl 68 (.tmp 3) (.tmp 23) rfl (w.heap.size + 1) #[.int .i64 (at_ l 0).2.1.1, .int .i64 (at_ l 0).2.1.2] (by rfl) (by rfl) _ _ HXgr2.out infoP rfl (by simp [Value.oneCell']) ?_
  have hs := chg_row (cs := #[.int .i64 (at_ l 0).2.1.1, .int .i64 (at_ l 0).2.1.2]) HXgr2.out
  have HXgr3 := Aside0.mk hs.1
  have HXgk3 := Aside0.mk (hs.2.heap HXgk2.out (fun e => by have e' : w.heap.size = (w.heap.size + 1) := e; have := HSZ.out; omega))
  have HB3 : Aside0 (Below w.heap.size w _) := ⟨HB2.out.trans (hs.2.below HB2.out.size (fun k hk => by have e : k = (w.heap.size + 1) := hk; have := HSZ.out; omega))⟩
  clear hs HB2 HXgk2 HXgr2
  generalize w2.setRow (w.heap.size + 1) #[.int .i64 (at_ l 0).2.1.1, .int .i64 (at_ l 0).2.1.2] = w3 at HB3 HXgk3 HXgr3 ⊢
  refine hK.out _ _ ⟨(HS.out _ HB3.out).1, (HS.out _ HB3.out).2.1, (HS.out _ HB3.out).2.2.1, (HS.out _ HB3.out).2.2.2.1, (HS.out _ HB3.out).2.2.2.2.1, (HS.out _ HB3.out).2.2.2.2.2⟩ (fun hHeld => ?_)
  clear hK K
  refine pure_ (i := 16) (N := some 4) (v := ?_) (a' := ?_) #[true, true, true, true, true, true, true, true, true, true, true, true, true, true, true, true, true] rfl rfl (any_of HT_.out (by kernel_rfl)) (fun _ _ _ h => h) (Or.inl ⟨by rfl, ?_⟩) ?_ ?_
  rotate_left
  · intro w'
    go_simp
    with_reducible rfl
  rotate_left
  · simp only [Act.put, List.setIfInBounds_toArray, List.set_cons_zero, List.set_cons_succ, i64_w, i32_w]
    rfl
  refine done_ (done_of HT_.out (by kernel_rfl)) ?_
  try clear hHeld
  try go_wp2
  refine bodyPost_ret (results_list (rs := [.cell 2 66, .cell 3 68, .tmp 4]) rfl (by simp) (.cell w.heap.size 66 _ (0, 0) _ rfl HXgk3.out Try.underlying66 rfl infoK (.cell (w.heap.size + 1) 68 _ (0, 0) _ rfl HXgr3.out Try.underlying68 rfl infoP (.tmp .nil)))) rfl ?_
  exact ⟨rfl, HB3.out⟩
set_option maxHeartbeats 8000000 in
set_option maxRecDepth 100000 in
theorem first_none (base g : Nat) (fv : Value) (A : Option Addr) (cap b : Nat) (c : Int) (w : World) (h : HAt w base g fv A cap b [] c) :
    Calls Try.prog 26 #[.pointer (some ⟨g, 0, none⟩)] w fun e w' => e = .returned (.tuple #[.agg #[.int .i16 0, .int .i16 0], .agg #[.int .i64 0, .int .i64 0], .bool false]) ∧ Below w.heap.size w w' := by
  have H := Aside0.mk h
  clear h
  go_enter Try.func26, Try.ntmps26
  go_wp2_with fail
  have HB0 : Aside0 (Below w.heap.size w w) := ⟨Below.refl _ _⟩
  have HXgk : Aside0 ((w.alloc (.cells #[.int .i16 0, .int .i16 0] 66)).heap[w.heap.size]? = some (.cells #[.int .i16 0, .int .i16 0] 66 (0, 0))) := ⟨blk_new _ _⟩
  have HB1 := Aside0.mk (below_alloc HB0.out (.cells #[.int .i16 0, .int .i16 0] 66))
  have HXgr : Aside0 (((w.alloc (.cells #[.int .i16 0, .int .i16 0] 66)).alloc (.cells #[.int .i64 0, .int .i64 0] 68)).heap[(w.alloc (.cells #[.int .i16 0, .int .i16 0] 66)).heap.size]? = some (.cells #[.int .i64 0, .int .i64 0] 68 (0, 0))) := ⟨blk_new _ _⟩
  have HXgk' := Aside0.mk (blk_alloc HXgk.out (.cells #[.int .i64 0, .int .i64 0] 68))
  clear HXgk
  have HXgk := HXgk'
  clear HXgk'
  have HB2 := Aside0.mk (below_alloc HB1.out (.cells #[.int .i64 0, .int .i64 0] 68))
  have HQ := Aside0.mk (H.out.below HB2.out)
  have HSZ : Aside0 True := ⟨trivial⟩
  have HXgr' : Aside0 (((w.alloc (.cells #[.int .i16 0, .int .i16 0] 66)).alloc (.cells #[.int .i64 0, .int .i64 0] 68)).heap[w.heap.size + 1]? = some (.cells #[.int .i64 0, .int .i64 0] 68 (0, 0))) := ⟨by have h := HXgr.out; rw [World.size_alloc] at h; exact h⟩
  clear HXgr
  have HXgr := HXgr'
  clear HXgr'
  have HBB := HB2
  clear HB0 HB1 HB2
  generalize ((w.alloc (.cells #[.int .i16 0, .int .i16 0] 66)).alloc (.cells #[.int .i64 0, .int .i64 0] 68)) = wB at HXgk HXgr HQ HBB ⊢
  refine (len_calls base g fv _ cap b [] c wB HQ.out).mono ?_
  rintro e w1 ⟨rfl, hw_⟩
  replace hw_ := hw_.symm
  subst hw_
  go_wp2_with fail
  have HB1 : Aside0 (Below w.heap.size w wB.drew) := ⟨below_drew HBB.out⟩
  have HXgk1 : Aside0 (wB.drew.heap[w.heap.size]? = _) := ⟨HXgk.out⟩
  have HXgr1 : Aside0 (wB.drew.heap[(w.heap.size + 1)]? = _) := ⟨HXgr.out⟩
  clear HBB HQ HXgk HXgr
  refine start_ (n := 5) (S := fun w' => w'.cell? ⟨w.heap.size, 0, none⟩ = some (.int .i16 0) ∧ w'.cell? ⟨w.heap.size, 1, none⟩ = some (.int .i16 0) ∧ w'.cell? ⟨(w.heap.size + 1), 0, none⟩ = some (.int .i64 0) ∧ w'.cell? ⟨(w.heap.size + 1), 1, none⟩ = some (.int .i64 0)) (ds := []) #[false, false, false, false, false] (by kernel_rfl) rfl rfl ⟨(blk_cell HXgk1.out 0).trans rfl, (blk_cell HXgk1.out 1).trans rfl, (blk_cell HXgr1.out 0).trans rfl, (blk_cell HXgr1.out 1).trans rfl⟩ (fun hHeld => ?_)
  refine with_tabW first.tab2 first.bits2 (fun HT_ HW_ => ?_)
  generalize wB.drew = w1 at HB1 HXgk1 HXgr1 hHeld ⊢
  refine take_ (i := 0) (N := some 8) (v := ?_) (a' := ?_) #[true, false, false, false, false] rfl rfl (take_ofW HT_.out HW_.out (by kernel_rfl)) (fun _ _ _ h => h) (Or.inl ⟨by rfl, ?_⟩) hHeld ?_ ?_
  rotate_left
  · rintro w' ⟨s0, s1, s2, s3⟩
    go_simp
    with_reducible rfl
  rotate_left
  · simp only [Act.put, List.setIfInBounds_toArray, List.set_cons_zero, List.set_cons_succ, i64_w, i32_w]
    rfl
  refine take_ (i := 1) (N := some 9) (v := ?_) (a' := ?_) #[true, true, false, false, false] rfl rfl (take_ofW HT_.out HW_.out (by kernel_rfl)) (fun _ _ _ h => h) (Or.inl ⟨by rfl, ?_⟩) hHeld ?_ ?_
  rotate_left
  · rintro w' ⟨s0, s1, s2, s3⟩
    go_simp
    with_reducible rfl
  rotate_left
  · simp only [Act.put, List.setIfInBounds_toArray, List.set_cons_zero, List.set_cons_succ, i64_w, i32_w]
    rfl
  refine one_ (i := 2) (N := none) #[true, true, true, false, false] rfl rfl (one_of HT_.out (by kernel_rfl)) (by decide) (fun K hK => ?_)
  refine rowstore_ (by rfl) rfl 66 (.tmp 2) (.tmp 8) rfl w.heap.size #[.int .i16 0, .int .i16 0] (by rfl) (by rfl) _ _ HXgk1.out infoK rfl (by simp [Value.oneCell']) ?_
  have hs := chg_row (cs := #[.int .i16 0, .int .i16 0]) HXgk1.out
  have HXgk2 := Aside0.mk hs.1
  have HXgr2 := Aside0.mk (hs.2.heap HXgr1.out (fun e => by have e' : (w.heap.size + 1) = w.heap.size := e; have := HSZ.out; omega))
  have HB2 : Aside0 (Below w.heap.size w _) := ⟨HB1.out.trans (hs.2.below HB1.out.size (fun k hk => by have e : k = w.heap.size := hk; have := HSZ.out; omega))⟩
  clear hs HB1 HXgk1 HXgr1
  generalize w1.setRow w.heap.size #[.int .i16 0, .int .i16 0] = w2 at HB2 HXgk2 HXgr2 ⊢
  refine hK.out _ _ ⟨(blk_cell HXgk2.out 0).trans rfl, (blk_cell HXgk2.out 1).trans rfl, (blk_cell HXgr2.out 0).trans rfl, (blk_cell HXgr2.out 1).trans rfl⟩ (fun hHeld => ?_)
  clear hK K
  refine one_ (i := 3) (N := none) #[true, true, true, true, false] rfl rfl (one_of HT_.out (by kernel_rfl)) (by decide) (fun K hK => ?_)
  refine rowstore_ (by rfl) rfl 68 (.tmp 3) (.tmp 9) rfl (w.heap.size + 1) #[.int .i64 0, .int .i64 0] (by rfl) (by rfl) _ _ HXgr2.out infoP rfl (by simp [Value.oneCell']) ?_
  have hs := chg_row (cs := #[.int .i64 0, .int .i64 0]) HXgr2.out
  have HXgr3 := Aside0.mk hs.1
  have HXgk3 := Aside0.mk (hs.2.heap HXgk2.out (fun e => by have e' : w.heap.size = (w.heap.size + 1) := e; have := HSZ.out; omega))
  have HB3 : Aside0 (Below w.heap.size w _) := ⟨HB2.out.trans (hs.2.below HB2.out.size (fun k hk => by have e : k = (w.heap.size + 1) := hk; have := HSZ.out; omega))⟩
  clear hs HB2 HXgk2 HXgr2
  generalize w2.setRow (w.heap.size + 1) #[.int .i64 0, .int .i64 0] = w3 at HB3 HXgk3 HXgr3 ⊢
  refine hK.out _ _ ⟨(blk_cell HXgk3.out 0).trans rfl, (blk_cell HXgk3.out 1).trans rfl, (blk_cell HXgr3.out 0).trans rfl, (blk_cell HXgr3.out 1).trans rfl⟩ (fun hHeld => ?_)
  clear hK K
  refine pure_ (i := 4) (N := some 4) (v := ?_) (a' := ?_) #[true, true, true, true, true] rfl rfl (any_of HT_.out (by kernel_rfl)) (fun _ _ _ h => h) (Or.inl ⟨by rfl, ?_⟩) ?_ ?_
  rotate_left
  · intro w'
    go_simp
    with_reducible rfl
  rotate_left
  · simp only [Act.put, List.setIfInBounds_toArray, List.set_cons_zero, List.set_cons_succ, i64_w, i32_w]
    rfl
  refine done_ (done_of HT_.out (by kernel_rfl)) ?_
  try clear hHeld
  try go_wp2
  refine bodyPost_ret (results_list (rs := [.cell 2 66, .cell 3 68, .tmp 4]) rfl (by simp) (.cell w.heap.size 66 _ (0, 0) _ rfl HXgk3.out Try.underlying66 rfl infoK (.cell (w.heap.size + 1) 68 _ (0, 0) _ rfl HXgr3.out Try.underlying68 rfl infoP (.tmp .nil)))) rfl ?_
  exact ⟨rfl, HB3.out⟩
def rank.T3 : Bool × List (List Nat × List Nat) := (true, [([], []), ([0], [0]), ([1], [1]), ([2], [2]), ([], []), ([3, 4], [3, 4]), ([5], [5]), ([6], [6]), ([6], [6]), ([7, 0, 1, 2, 3, 4, 5, 6, 7], [7]), ([8, 9, 0, 1, 2, 3, 4, 5, 6, 7, 8, 9], [8])])
def rank.B3 : List Nat := [0, 1, 3, 7, 0, 31, 63, 127, 127, 255, 1023]
theorem rank.tab3 : rtab .any (opsOf Try.f27 3) = rank.T3 := by kernel_rfl
theorem rank.bits3 : waitsOk rank.T3.2 rank.B3 = true := by kernel_rfl
set_option maxHeartbeats 8000000 in
set_option maxRecDepth 100000 in
theorem rank_calls (base g : Nat) (fv : Value) (A : Option Addr) (cap b : Nat) (l : List It) (c : Int) (key : Kt) (w : World) (h : HAt w base g fv A cap b l c) (hk : okK key) {i : Nat} (hi : idxL l key = some i) :
    Calls Try.prog 27 #[.pointer (some ⟨g, 0, none⟩), .agg #[.int .i16 key.1, .int .i16 key.2]] w fun e w' => e = .returned (.tuple #[.agg #[.int .i64 (at_ l i).2.1.1, .int .i64 (at_ l i).2.1.2], .bool true]) ∧ Below w.heap.size w w' := by
  obtain ⟨hil, hkey⟩ := idx_some hi
  obtain ⟨gl, rfl⟩ := h.some (by omega)
  have hill : (i : Int) < l.length := by omega
  have HI := Aside0.mk hil
  clear hkey
  have H := Aside0.mk h
  have HK := Aside0.mk hk
  have HIX := Aside0.mk hi
  clear h hk hi
  go_enter Try.func27, Try.ntmps27
  go_upto_region 1 with (fail)
  have HB0 : Aside0 (Below w.heap.size w w) := ⟨Below.refl _ _⟩
  have HXgk : Aside0 ((w.alloc (.cells #[.int .i16 key.1, .int .i16 key.2] 66)).heap[w.heap.size]? = some (.cells #[.int .i16 key.1, .int .i16 key.2] 66 (0, 0))) := ⟨blk_new _ _⟩
  have HB1 := Aside0.mk (below_alloc HB0.out (.cells #[.int .i16 key.1, .int .i16 key.2] 66))
  clear HB0
  have HXa := Aside0.mk (blk_alloc HXgk.out (.cells #[.int .i64 0, .int .i64 0] 68))
  clear HXgk
  have HXgk := HXa
  clear HXa
  have HXgr : Aside0 (((w.alloc (.cells #[.int .i16 key.1, .int .i16 key.2] 66)).alloc (.cells #[.int .i64 0, .int .i64 0] 68)).heap[(w.heap.size + 1)]? = some (.cells #[.int .i64 0, .int .i64 0] 68 (0, 0))) := ⟨by have h := blk_new (w.alloc (.cells #[.int .i16 key.1, .int .i16 key.2] 66)) (.cells #[.int .i64 0, .int .i64 0] 68); rw [World.size_alloc] at h; exact h⟩
  have HB2 := Aside0.mk (below_alloc HB1.out (.cells #[.int .i64 0, .int .i64 0] 68))
  clear HB1
  have HQ := Aside0.mk (H.out.below HB2.out)
  have HBB := HB2
  clear HB2
  generalize ((w.alloc (.cells #[.int .i16 key.1, .int .i16 key.2] 66)).alloc (.cells #[.int .i64 0, .int .i64 0] 68)) = wB at HXgk HXgr HQ HBB ⊢
  go_upto_region 3 with (fail)
  have HQ1 : Aside0 (HAt wB.drew base g fv (some ⟨gl, 0, none⟩) cap b l c) := ⟨HQ.out.below (below_drew1 (Below.refl _ _))⟩
  have HB1 : Aside0 (Below w.heap.size w wB.drew) := ⟨below_drew HBB.out⟩
  have HXgk1 : Aside0 (wB.drew.heap[w.heap.size]? = _) := ⟨HXgk.out⟩
  have HXgr1 : Aside0 (wB.drew.heap[(w.heap.size + 1)]? = _) := ⟨HXgr.out⟩
  clear HQ HBB HXgk HXgr
  refine start_ (n := 11) (S := fun w' => w'.cell? ⟨w.heap.size, 0, none⟩ = some (.int .i16 key.1) ∧ w'.cell? ⟨w.heap.size, 1, none⟩ = some (.int .i16 key.2) ∧ w'.cell? ⟨g, 2, none⟩ = some (.map (some b))) (ds := []) #[false, false, false, false, false, false, false, false, false, false, false] (by kernel_rfl) rfl rfl ⟨(blk_cell HXgk1.out 0).trans rfl, (blk_cell HXgk1.out 1).trans rfl, (blk_cell HQ1.out.blk 2).trans rfl⟩ (fun hHeld => ?_)
  refine with_tabW rank.tab3 rank.bits3 (fun HT_ HW_ => ?_)
  generalize wB.drew = w1 at HQ1 HB1 HXgk1 HXgr1 hHeld ⊢
  have hm := HQ1.out.map.look keyLaw Try.underlying104 (zero_int w1) HK.out
  unfold encK at hm
  rw [HIX.out] at hm
  simp only [Option.getD_some, Option.isSome_some] at hm
  refine pure_ (i := 0) (N := some 11) (v := ?_) (a' := ?_) #[true, false, false, false, false, false, false, false, false, false, false] rfl rfl (any_of HT_.out (by kernel_rfl)) (fun _ _ _ h => h) (Or.inl ⟨by rfl, ?_⟩) ?_ ?_
  rotate_left
  · intro w'
    go_simp
    with_reducible rfl
  rotate_left
  · simp only [Act.put, List.setIfInBounds_toArray, List.set_cons_zero, List.set_cons_succ, i64_w, i32_w]
    rfl
  refine pure_ (i := 1) (N := some 12) (v := ?_) (a' := ?_) #[true, true, false, false, false, false, false, false, false, false, false] rfl rfl (any_of HT_.out (by kernel_rfl)) (fun _ _ _ h => h) (Or.inl ⟨by rfl, ?_⟩) ?_ ?_
  rotate_left
  · intro w'
    go_simp
    with_reducible rfl
  rotate_left
  · simp only [Act.put, List.setIfInBounds_toArray, List.set_cons_zero, List.set_cons_succ, i64_w, i32_w]
    rfl
  refine pure_ (i := 2) (N := some 13) (v := ?_) (a' := ?_) #[true, true, true, false, false, false, false, false, false, false, false] rfl rfl (any_of HT_.out (by kernel_rfl)) (fun _ _ _ h => h) (Or.inl ⟨by rfl, ?_⟩) ?_ ?_
  rotate_left
  · intro w'
    go_simp
    with_reducible rfl
  rotate_left
  · simp only [Act.put, List.setIfInBounds_toArray, List.set_cons_zero, List.set_cons_succ, i64_w, i32_w]
    rfl
  refine take_ (i := 3) (N := some 14) (v := ?_) (a' := ?_) #[true, true, true, true, false, false, false, false, false, false, false] rfl rfl (take_ofW HT_.out HW_.out (by kernel_rfl)) (fun _ _ _ h => h) (Or.inl ⟨by rfl, ?_⟩) hHeld ?_ ?_
  rotate_left
  · rintro w' ⟨s0, s1, s2⟩
    go_simp
    with_reducible rfl
  rotate_left
  · simp only [Act.put, List.setIfInBounds_toArray, List.set_cons_zero, List.set_cons_succ, i64_w, i32_w]
    rfl
  refine take_ (i := 4) (N := some 15) (v := ?_) (a' := ?_) #[true, true, true, true, true, false, false, false, false, false, false] rfl rfl (take_ofW HT_.out HW_.out (by kernel_rfl)) (fun _ _ _ h => h) (Or.inl ⟨by rfl, ?_⟩) hHeld ?_ ?_
  rotate_left
  · rintro w' ⟨s0, s1, s2⟩
    go_simp
    with_reducible rfl
  rotate_left
  · simp only [Act.put, List.setIfInBounds_toArray, List.set_cons_zero, List.set_cons_succ, i64_w, i32_w]
    rfl
  refine one_ (i := 5) (N := some 16) #[true, true, true, true, true, true, false, false, false, false, false] rfl rfl (one_of HT_.out (by kernel_rfl)) (by decide) (fun K hK => ?_)
  refine value_ (v := .tuple #[.int .i64 (i : Nat), .bool true]) (w1 := w1) (by rfl) rfl ?_ ?_
  · first | (go_simp; done) | (go_simp; rfl)
  clear hm
  refine hK.out _ _ ⟨(blk_cell HXgk1.out 0).trans rfl, (blk_cell HXgk1.out 1).trans rfl, (blk_cell HQ1.out.blk 2).trans rfl⟩ (fun hHeld => ?_)
  clear hK K
  refine norm_ (a' := ?_) ?_ ?_
  rotate_left
  · show Act.put _ (some 16) _ = _
    simp only [Act.put, List.setIfInBounds_toArray, List.set_cons_zero, List.set_cons_succ, i64_w, i32_w]
    rfl
  refine pure_ (i := 6) (N := some 10) (v := ?_) (a' := ?_) #[true, true, true, true, true, true, true, false, false, false, false] rfl rfl (any_of HT_.out (by kernel_rfl)) (fun _ _ _ h => h) (Or.inl ⟨by rfl, ?_⟩) ?_ ?_
  rotate_left
  · intro w'
    go_simp
    with_reducible rfl
  rotate_left
  · simp only [Act.put, List.setIfInBounds_toArray, List.set_cons_zero, List.set_cons_succ, i64_w, i32_w]
    rfl
  refine pure_ (i := 7) (N := some 17) (v := ?_) (a' := ?_) #[true, true, true, true, true, true, true, true, false, false, false] rfl rfl (any_of HT_.out (by kernel_rfl)) (fun _ _ _ h => h) (Or.inl ⟨by rfl, ?_⟩) ?_ ?_
  rotate_left
  · intro w'
    go_simp
    with_reducible rfl
  rotate_left
  · simp only [Act.put, List.setIfInBounds_toArray, List.set_cons_zero, List.set_cons_succ, i64_w, i32_w]
    rfl
  refine pure_ (i := 8) (N := some 18) (v := ?_) (a' := ?_) #[true, true, true, true, true, true, true, true, true, false, false] rfl rfl (any_of HT_.out (by kernel_rfl)) (fun _ _ _ h => h) (Or.inl ⟨by rfl, ?_⟩) ?_ ?_
  rotate_left
  · intro w'
    go_simp
    with_reducible rfl
  rotate_left
  · simp only [Act.put, List.setIfInBounds_toArray, List.set_cons_zero, List.set_cons_succ, i64_w, i32_w]
    rfl
  refine pure_ (i := 9) (N := some 6) (v := ?_) (a' := ?_) #[true, true, true, true, true, true, true, true, true, true, false] rfl rfl (any_of HT_.out (by kernel_rfl)) (fun _ _ _ h => h) (Or.inl ⟨by rfl, ?_⟩) ?_ ?_
  rotate_left
  · intro w'
    go_simp
    with_reducible rfl
  rotate_left
  · simp only [Act.put, List.setIfInBounds_toArray, List.set_cons_zero, List.set_cons_succ, i64_w, i32_w]
    rfl
  refine pure_ (i := 10) (N := some 5) (v := ?_) (a' := ?_) #[true, true, true, true, true, true, true, true, true, true, true] rfl rfl (any_of HT_.out (by kernel_rfl)) (fun _ _ _ h => h) (Or.inl ⟨by rfl, ?_⟩) ?_ ?_
  rotate_left
  · intro w'
    go_simp
    with_reducible rfl
  rotate_left
  · simp only [Act.put, List.setIfInBounds_toArray, List.set_cons_zero, List.set_cons_succ, i64_w, i32_w]
    rfl
  refine done_ (done_of HT_.out (by kernel_rfl)) ?_
  try clear hHeld
  have hc1 : w1.cell? ⟨g, 1, none⟩ = some (.slice (some ⟨gl, 0, none⟩) l.length cap) := (blk_cell HQ1.out.blk 1).trans rfl
  obtain ⟨i0, i1, i2, i3, i4, _⟩ := item_cells HQ1.out.row HI.out
  clear i0 i1 i4
  go_wp2_with ((with_reducible refine gate_store (t := 68) (p := 4) (v := .tmp 29) rfl ?_); refine wpList_store_row rfl 68 (.tmp 4) (.tmp 29) rfl (w.heap.size + 1) #[.int .i64 (at_ l i).2.1.1, .int .i64 (at_ l i).2.1.2] rfl rfl _ _ HXgr1.out infoP rfl (by simp [Value.oneCell']) ?_; have hs := chg_row (cs := #[.int .i64 (at_ l i).2.1.1, .int .i64 (at_ l i).2.1.2]) HXgr1.out; have HXgr2 := Aside0.mk hs.1; have HB2 : Aside0 (Below w.heap.size w (w1.setRow (w.heap.size + 1) #[.int .i64 (at_ l i).2.1.1, .int .i64 (at_ l i).2.1.2])) := ⟨HB1.out.trans (hs.2.below HB1.out.size (fun k hk => by have e : k = (w.heap.size + 1) := hk; omega))⟩; clear hs; generalize w1.setRow (w.heap.size + 1) #[.int .i64 (at_ l i).2.1.1, .int .i64 (at_ l i).2.1.2] = w2 at HXgr2 HB2 ⊢; have hcs0_w2 : w2.cell? ⟨(w.heap.size + 1), 0, none⟩ = some (.int .i64 (at_ l i).2.1.1) := (blk_cell HXgr2.out 0).trans rfl; have hcs1_w2 : w2.cell? ⟨(w.heap.size + 1), 1, none⟩ = some (.int .i64 (at_ l i).2.1.2) := (blk_cell HXgr2.out 1).trans rfl)
  refine bodyPost_ret (results_list (rs := [.cell 4 68, .tmp 5]) rfl (by simp) (.cell (w.heap.size + 1) 68 _ (0, 0) _ rfl HXgr2.out Try.underlying68 rfl infoP (.tmp .nil))) rfl ?_
  exact ⟨rfl, HB2.out⟩
set_option maxHeartbeats 8000000 in
set_option maxRecDepth 100000 in
theorem rank_none (base g : Nat) (fv : Value) (A : Option Addr) (cap b : Nat) (l : List It) (c : Int) (key : Kt) (w : World) (h : HAt w base g fv A cap b l c) (hk : okK key) (hi : idxL l key = none) :
    Calls Try.prog 27 #[.pointer (some ⟨g, 0, none⟩), .agg #[.int .i16 key.1, .int .i16 key.2]] w fun e w' => e = .returned (.tuple #[.agg #[.int .i64 0, .int .i64 0], .bool false]) ∧ Below w.heap.size w w' := by
  have H := Aside0.mk h
  have HK := Aside0.mk hk
  have HIX := Aside0.mk hi
  clear h hk hi
  go_enter Try.func27, Try.ntmps27
  go_upto_region 1 with (fail)
  have HB0 : Aside0 (Below w.heap.size w w) := ⟨Below.refl _ _⟩
  have HXgk : Aside0 ((w.alloc (.cells #[.int .i16 key.1, .int .i16 key.2] 66)).heap[w.heap.size]? = some (.cells #[.int .i16 key.1, .int .i16 key.2] 66 (0, 0))) := ⟨blk_new _ _⟩
  have HB1 := Aside0.mk (below_alloc HB0.out (.cells #[.int .i16 key.1, .int .i16 key.2] 66))
  clear HB0
  have HXa := Aside0.mk (blk_alloc HXgk.out (.cells #[.int .i64 0, .int .i64 0] 68))
  clear HXgk
  have HXgk := HXa
  clear HXa
  have HXgr : Aside0 (((w.alloc (.cells #[.int .i16 key.1, .int .i16 key.2] 66)).alloc (.cells #[.int .i64 0, .int .i64 0] 68)).heap[(w.heap.size + 1)]? = some (.cells #[.int .i64 0, .int .i64 0] 68 (0, 0))) := ⟨by have h := blk_new (w.alloc (.cells #[.int .i16 key.1, .int .i16 key.2] 66)) (.cells #[.int .i64 0, .int .i64 0] 68); rw [World.size_alloc] at h; exact h⟩
  have HB2 := Aside0.mk (below_alloc HB1.out (.cells #[.int .i64 0, .int .i64 0] 68))
  clear HB1
  have HQ := Aside0.mk (H.out.below HB2.out)
  have HBB := HB2
  clear HB2
  generalize ((w.alloc (.cells #[.int .i16 key.1, .int .i16 key.2] 66)).alloc (.cells #[.int .i64 0, .int .i64 0] 68)) = wB at HXgk HXgr HQ HBB ⊢
  go_upto_region 3 with (fail)
  have HQ1 : Aside0 (HAt wB.drew base g fv A cap b l c) := ⟨HQ.out.below (below_drew1 (Below.refl _ _))⟩
  have HB1 : Aside0 (Below w.heap.size w wB.drew) := ⟨below_drew HBB.out⟩
  have HXgk1 : Aside0 (wB.drew.heap[w.heap.size]? = _) := ⟨HXgk.out⟩
  have HXgr1 : Aside0 (wB.drew.heap[(w.heap.size + 1)]? = _) := ⟨HXgr.out⟩
  clear HQ HBB HXgk HXgr
  refine start_ (n := 11) (S := fun w' => w'.cell? ⟨w.heap.size, 0, none⟩ = some (.int .i16 key.1) ∧ w'.cell? ⟨w.heap.size, 1, none⟩ = some (.int .i16 key.2) ∧ w'.cell? ⟨g, 2, none⟩ = some (.map (some b))) (ds := []) #[false, false, false, false, false, false, false, false, false, false, false] (by kernel_rfl) rfl rfl ⟨(blk_cell HXgk1.out 0).trans rfl, (blk_cell HXgk1.out 1).trans rfl, (blk_cell HQ1.out.blk 2).trans rfl⟩ (fun hHeld => ?_)
  refine with_tabW rank.tab3 rank.bits3 (fun HT_ HW_ => ?_)
  generalize wB.drew = w1 at HQ1 HB1 HXgk1 HXgr1 hHeld ⊢
  have hm := HQ1.out.map.look keyLaw Try.underlying104 (zero_int w1) HK.out
  unfold encK at hm
  rw [HIX.out] at hm
  simp only [Option.getD_none, Option.isSome_none] at hm
  refine pure_ (i := 0) (N := some 11) (v := ?_) (a' := ?_) #[true, false, false, false, false, false, false, false, false, false, false] rfl rfl (any_of HT_.out (by kernel_rfl)) (fun _ _ _ h => h) (Or.inl ⟨by rfl, ?_⟩) ?_ ?_
  rotate_left
  · intro w'
    go_simp
    with_reducible rfl
  rotate_left
  · simp only [Act.put, List.setIfInBounds_toArray, List.set_cons_zero, List.set_cons_succ, i64_w, i32_w]
    rfl
  refine pure_ (i := 1) (N := some 12) (v := ?_) (a' := ?_) #[true, true, false, false, false, false, false, false, false, false, false] rfl rfl (any_of HT_.out (by kernel_rfl)) (fun _ _ _ h => h) (Or.inl ⟨by rfl, ?_⟩) ?_ ?_
  rotate_left
  · intro w'
    go_simp
    with_reducible rfl
  rotate_left
  · simp only [Act.put, List.setIfInBounds_toArray, List.set_cons_zero, List.set_cons_succ, i64_w, i32_w]
    rfl
  refine pure_ (i := 2) (N := some 13) (v := ?_) (a' := ?_) #[true, true, true, false, false, false, false, false, false, false, false] rfl rfl (any_of HT_.out (by kernel_rfl)) (fun _ _ _ h => h) (Or.inl ⟨by rfl, ?_⟩) ?_ ?_
  rotate_left
  · intro w'
    go_simp
    with_reducible rfl
  rotate_left
  · simp only [Act.put, List.setIfInBounds_toArray, List.set_cons_zero, List.set_cons_succ, i64_w, i32_w]
    rfl
  refine take_ (i := 3) (N := some 14) (v := ?_) (a' := ?_) #[true, true, true, true, false, false, false, false, false, false, false] rfl rfl (take_ofW HT_.out HW_.out (by kernel_rfl)) (fun _ _ _ h => h) (Or.inl ⟨by rfl, ?_⟩) hHeld ?_ ?_
  rotate_left
  · rintro w' ⟨s0, s1, s2⟩
    go_simp
    with_reducible rfl
  rotate_left
  · simp only [Act.put, List.setIfInBounds_toArray, List.set_cons_zero, List.set_cons_succ, i64_w, i32_w]
    rfl
  refine take_ (i := 4) (N := some 15) (v := ?_) (a' := ?_) #[true, true, true, true, true, false, false, false, false, false, false] rfl rfl (take_ofW HT_.out HW_.out (by kernel_rfl)) (fun _ _ _ h => h) (Or.inl ⟨by rfl, ?_⟩) hHeld ?_ ?_
  rotate_left
  · rintro w' ⟨s0, s1, s2⟩
    go_simp
    with_reducible rfl
  rotate_left
  · simp only [Act.put, List.setIfInBounds_toArray, List.set_cons_zero, List.set_cons_succ, i64_w, i32_w]
    rfl
  refine one_ (i := 5) (N := some 16) #[true, true, true, true, true, true, false, false, false, false, false] rfl rfl (one_of HT_.out (by kernel_rfl)) (by decide) (fun K hK => ?_)
  refine value_ (v := .tuple #[.int .i64 0, .bool false]) (w1 := w1) (by rfl) rfl ?_ ?_
  · first | (go_simp; done) | (go_simp; rfl)
  clear hm
  refine hK.out _ _ ⟨(blk_cell HXgk1.out 0).trans rfl, (blk_cell HXgk1.out 1).trans rfl, (blk_cell HQ1.out.blk 2).trans rfl⟩ (fun hHeld => ?_)
  clear hK K
  refine norm_ (a' := ?_) ?_ ?_
  rotate_left
  · show Act.put _ (some 16) _ = _
    simp only [Act.put, List.setIfInBounds_toArray, List.set_cons_zero, List.set_cons_succ, i64_w, i32_w]
    rfl
  refine pure_ (i := 6) (N := some 10) (v := ?_) (a' := ?_) #[true, true, true, true, true, true, true, false, false, false, false] rfl rfl (any_of HT_.out (by kernel_rfl)) (fun _ _ _ h => h) (Or.inl ⟨by rfl, ?_⟩) ?_ ?_
  rotate_left
  · intro w'
    go_simp
    with_reducible rfl
  rotate_left
  · simp only [Act.put, List.setIfInBounds_toArray, List.set_cons_zero, List.set_cons_succ, i64_w, i32_w]
    rfl
  refine pure_ (i := 7) (N := some 17) (v := ?_) (a' := ?_) #[true, true, true, true, true, true, true, true, false, false, false] rfl rfl (any_of HT_.out (by kernel_rfl)) (fun _ _ _ h => h) (Or.inl ⟨by rfl, ?_⟩) ?_ ?_
  rotate_left
  · intro w'
    go_simp
    with_reducible rfl
  rotate_left
  · simp only [Act.put, List.setIfInBounds_toArray, List.set_cons_zero, List.set_cons_succ, i64_w, i32_w]
    rfl
  refine pure_ (i := 8) (N := some 18) (v := ?_) (a' := ?_) #[true, true, true, true, true, true, true, true, true, false, false] rfl rfl (any_of HT_.out (by kernel_rfl)) (fun _ _ _ h => h) (Or.inl ⟨by rfl, ?_⟩) ?_ ?_
  rotate_left
  · intro w'
    go_simp
    with_reducible rfl
  rotate_left
  · simp only [Act.put, List.setIfInBounds_toArray, List.set_cons_zero, List.set_cons_succ, i64_w, i32_w]
    rfl
  refine pure_ (i := 9) (N := some 6) (v := ?_) (a' := ?_) #[true, true, true, true, true, true, true, true, true, true, false] rfl rfl (any_of HT_.out (by kernel_rfl)) (fun _ _ _ h => h) (Or.inl ⟨by rfl, ?_⟩) ?_ ?_
  rotate_left
  · intro w'
    go_simp
    with_reducible rfl
  rotate_left
  · simp only [Act.put, List.setIfInBounds_toArray, List.set_cons_zero, List.set_cons_succ, i64_w, i32_w]
    rfl
  refine pure_ (i := 10) (N := some 5) (v := ?_) (a' := ?_) #[true, true, true, true, true, true, true, true, true, true, true] rfl rfl (any_of HT_.out (by kernel_rfl)) (fun _ _ _ h => h) (Or.inl ⟨by rfl, ?_⟩) ?_ ?_
  rotate_left
  · intro w'
    go_simp
    with_reducible rfl
  rotate_left
  · simp only [Act.put, List.setIfInBounds_toArray, List.set_cons_zero, List.set_cons_succ, i64_w, i32_w]
    rfl
  refine done_ (done_of HT_.out (by kernel_rfl)) ?_
  try clear hHeld
  have hcc0 : w1.cell? ⟨(w.heap.size + 1), 0, none⟩ = some (.int .i64 0) := (blk_cell HXgr1.out 0).trans rfl
  have hcc1 : w1.cell? ⟨(w.heap.size + 1), 1, none⟩ = some (.int .i64 0) := (blk_cell HXgr1.out 1).trans rfl
  go_wp2_with ((with_reducible refine gate_store (t := 68) (p := 4) (v := .tmp 21) rfl ?_); refine wpList_store_row rfl 68 (.tmp 4) (.tmp 21) rfl (w.heap.size + 1) #[.int .i64 0, .int .i64 0] rfl rfl _ _ HXgr1.out infoP rfl (by simp [Value.oneCell']) ?_; have hs := chg_row (cs := #[.int .i64 0, .int .i64 0]) HXgr1.out; have HXgr2 := Aside0.mk hs.1; have HB2 : Aside0 (Below w.heap.size w (w1.setRow (w.heap.size + 1) #[.int .i64 0, .int .i64 0])) := ⟨HB1.out.trans (hs.2.below HB1.out.size (fun k hk => by have e : k = (w.heap.size + 1) := hk; omega))⟩; clear hs; generalize w1.setRow (w.heap.size + 1) #[.int .i64 0, .int .i64 0] = w2 at HXgr2 HB2 ⊢; have hcs0_w2 : w2.cell? ⟨(w.heap.size + 1), 0, none⟩ = some (.int .i64 0) := (blk_cell HXgr2.out 0).trans rfl; have hcs1_w2 : w2.cell? ⟨(w.heap.size + 1), 1, none⟩ = some (.int .i64 0) := (blk_cell HXgr2.out 1).trans rfl)
  refine bodyPost_ret (results_list (rs := [.cell 4 68, .tmp 5]) rfl (by simp) (.cell (w.heap.size + 1) 68 _ (0, 0) _ rfl HXgr2.out Try.underlying68 rfl infoP (.tmp .nil))) rfl ?_
  exact ⟨rfl, HB2.out⟩
end Go.Proofs.Ytibipbfmhbkpiaa.HeapPR
