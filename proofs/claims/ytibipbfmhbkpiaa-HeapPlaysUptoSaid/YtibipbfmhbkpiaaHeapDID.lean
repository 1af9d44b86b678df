/- What a heap's methods do: HeapDI, lens,first,rank,drop,pop. Conditions: those that stand in each theorem. Written by wip/gen/heapg.py. -/
import Derived.Test.YtibipbfmhbkpiaaHeapDIB
namespace Go.Proofs.Ytibipbfmhbkpiaa.HeapDI
open Go.RowKit Go.Proofs.YtibipbfmhbkpiaaW.PrintWords Go.Proofs.YtibipbfmhbkpiaaW.PrintLast Go.Proofs.YtibipbfmhbkpiaaW.PrintMore Go.Proofs.Ytibipbfmhbkpiaa.HeapW Go.Proofs.Ytibipbfmhbkpiaa.HeapP Go.Proofs.Ytibipbfmhbkpiaa.MapAt
set_option linter.unusedVariables false
set_option linter.unusedSimpArgs false
set_option maxHeartbeats 8000000 in
set_option maxRecDepth 100000 in
theorem len_calls (base g : Nat) (fv : Value) (A : Option Addr) (cap b : Nat) (l : List It) (c : Int) (w : World) (h : HAt w base g fv A cap b l c) :
    Calls Try.prog 40 #[.pointer (some ⟨g, 0, none⟩)] w fun e w' => e = .returned (.int .i64 l.length) ∧ w' = w := by
  have hc1 : w.cell? ⟨g, 1, none⟩ = some (.slice A l.length cap) := (blk_cell h.blk 1).trans rfl
  clear h
  go_enter Try.func40, Try.ntmps40
  go_wp2
  go_ret
  exact ⟨rfl, rfl⟩
def first.T3 : Bool × List (List Nat × List Nat) := (true, [([], []), ([0], [0]), ([1], [1]), ([2], [2]), ([3], [3]), ([4], [4]), ([5], [5]), ([], []), ([7], [7]), ([8], [8]), ([9], [9]), ([10], [10]), ([11], [11]), ([12], [12]), ([6, 0, 1, 2, 3, 4, 5, 6], [6]), ([13, 14, 0, 1, 2, 3, 4, 5, 6, 7, 8, 9, 10, 11, 12, 13, 14], [13]), ([15, 0, 1, 2, 3, 4, 5, 6, 7, 8, 9, 10, 11, 12, 13, 14, 15], [])])
def first.B3 : List Nat := [0, 1, 3, 7, 15, 31, 63, 0, 128, 384, 896, 1920, 3968, 8064, 127, 32767, 65535]
theorem first.tab3 : rtab .any (opsOf Try.f37 3) = first.T3 := by kernel_rfl
theorem first.bits3 : waitsOk first.T3.2 first.B3 = true := by kernel_rfl
set_option maxHeartbeats 8000000 in
set_option maxRecDepth 100000 in
theorem first_calls (base g : Nat) (fv : Value) (A : Option Addr) (cap b : Nat) (l : List It) (c : Int) (w : World) (h : HAt w base g fv A cap b l c) (hl : 0 < l.length) :
    Calls Try.prog 37 #[.pointer (some ⟨g, 0, none⟩)] w fun e w' => e = .returned (.tuple #[.agg #[.int .u8 (at_ l 0).1.1, .int .u8 (at_ l 0).1.2.1, .int .u8 (at_ l 0).1.2.2.1, .int .u8 (at_ l 0).1.2.2.2.1, .int .u8 (at_ l 0).1.2.2.2.2.1, .int .u8 (at_ l 0).1.2.2.2.2.2.1, .int .u8 (at_ l 0).1.2.2.2.2.2.2.1, .int .u8 (at_ l 0).1.2.2.2.2.2.2.2], .int .i64 (at_ l 0).2.1, .bool true]) ∧ Below w.heap.size w w' := by
  obtain ⟨gl, rfl⟩ := h.some hl
  have hne : ((l.length : Int) == 0) = false := beq_eq_false_iff_ne.mpr (by omega)
  have hll : (0 : Int) < l.length := by omega
  have H := Aside0.mk h
  have HS : Aside0 (∀ w', Below w.heap.size w w' → w'.cell? ⟨g, 1, none⟩ = some (.slice (some ⟨gl, 0, none⟩) l.length cap) ∧ w'.cell? ⟨gl, 0, none⟩ = some (.int .u8 (at_ l 0).1.1) ∧ w'.cell? ⟨gl, 1, none⟩ = some (.int .u8 (at_ l 0).1.2.1) ∧ w'.cell? ⟨gl, 2, none⟩ = some (.int .u8 (at_ l 0).1.2.2.1) ∧ w'.cell? ⟨gl, 3, none⟩ = some (.int .u8 (at_ l 0).1.2.2.2.1) ∧ w'.cell? ⟨gl, 4, none⟩ = some (.int .u8 (at_ l 0).1.2.2.2.2.1) ∧ w'.cell? ⟨gl, 5, none⟩ = some (.int .u8 (at_ l 0).1.2.2.2.2.2.1) ∧ w'.cell? ⟨gl, 6, none⟩ = some (.int .u8 (at_ l 0).1.2.2.2.2.2.2.1) ∧ w'.cell? ⟨gl, 7, none⟩ = some (.int .u8 (at_ l 0).1.2.2.2.2.2.2.2) ∧ w'.cell? ⟨gl, 8, none⟩ = some (.int .i64 (at_ l 0).2.1) ∧ w'.cell? ⟨gl, 9, none⟩ = some (.int .i64 (at_ l 0).2.2)) := ⟨fun w' hb => by
    obtain ⟨i0, i1, i2, i3, i4, i5, i6, i7, i8, i9, _⟩ := item_cells h.row hl
    rw [Nat.zero_mul] at i0 i1 i2 i3 i4 i5 i6 i7 i8 i9
    exact ⟨pw_cell_below hb ((blk_cell h.blk 1).trans rfl), pw_cell_below hb i0, pw_cell_below hb i1, pw_cell_below hb i2, pw_cell_below hb i3, pw_cell_below hb i4, pw_cell_below hb i5, pw_cell_below hb i6, pw_cell_below hb i7, pw_cell_below hb i8, pw_cell_below hb i9⟩⟩
  clear h
  go_enter Try.func37, Try.ntmps37
  go_wp2_with fail
  have HB0 : Aside0 (Below w.heap.size w w) := ⟨Below.refl _ _⟩
  have HXgk : Aside0 ((w.alloc (.cells #[.int .u8 0, .int .u8 0, .int .u8 0, .int .u8 0, .int .u8 0, .int .u8 0, .int .u8 0, .int .u8 0] 33)).heap[w.heap.size]? = some (.cells #[.int .u8 0, .int .u8 0, .int .u8 0, .int .u8 0, .int .u8 0, .int .u8 0, .int .u8 0, .int .u8 0] 33 (0, 0))) := ⟨blk_new _ _⟩
  have HB1 := Aside0.mk (below_alloc HB0.out (.cells #[.int .u8 0, .int .u8 0, .int .u8 0, .int .u8 0, .int .u8 0, .int .u8 0, .int .u8 0, .int .u8 0] 33))
  have HQ := Aside0.mk (H.out.below HB1.out)
  have HBB := HB1
  clear HB0 HB1
  generalize (w.alloc (.cells #[.int .u8 0, .int .u8 0, .int .u8 0, .int .u8 0, .int .u8 0, .int .u8 0, .int .u8 0, .int .u8 0] 33)) = wB at HXgk HQ HBB ⊢
  refine (len_calls base g fv _ cap b l c wB HQ.out).mono ?_
  rintro e w1 ⟨rfl, hw_⟩
  replace hw_ := hw_.symm
  subst hw_
  go_wp2_with fail
  have HXgk1 : Aside0 (wB.drew.heap[w.heap.size]? = _) := ⟨HXgk.out⟩
  have HB1 : Aside0 (Below w.heap.size w wB.drew) := ⟨below_drew HBB.out⟩
  clear HBB HQ HXgk
  refine start_ (n := 17) (S := fun w' => w'.cell? ⟨g, 1, none⟩ = some (.slice (some ⟨gl, 0, none⟩) l.length cap) ∧ w'.cell? ⟨gl, 0, none⟩ = some (.int .u8 (at_ l 0).1.1) ∧ w'.cell? ⟨gl, 1, none⟩ = some (.int .u8 (at_ l 0).1.2.1) ∧ w'.cell? ⟨gl, 2, none⟩ = some (.int .u8 (at_ l 0).1.2.2.1) ∧ w'.cell? ⟨gl, 3, none⟩ = some (.int .u8 (at_ l 0).1.2.2.2.1) ∧ w'.cell? ⟨gl, 4, none⟩ = some (.int .u8 (at_ l 0).1.2.2.2.2.1) ∧ w'.cell? ⟨gl, 5, none⟩ = some (.int .u8 (at_ l 0).1.2.2.2.2.2.1) ∧ w'.cell? ⟨gl, 6, none⟩ = some (.int .u8 (at_ l 0).1.2.2.2.2.2.2.1) ∧ w'.cell? ⟨gl, 7, none⟩ = some (.int .u8 (at_ l 0).1.2.2.2.2.2.2.2) ∧ w'.cell? ⟨gl, 8, none⟩ = some (.int .i64 (at_ l 0).2.1) ∧ w'.cell? ⟨gl, 9, none⟩ = some (.int .i64 (at_ l 0).2.2)) (ds := []) #[false, false, false, false, false, false, false, false, false, false, false, false, false, false, false, false, false] (by kernel_rfl) rfl rfl ⟨(HS.out _ HB1.out).1, (HS.out _ HB1.out).2.1, (HS.out _ HB1.out).2.2.1, (HS.out _ HB1.out).2.2.2.1, (HS.out _ HB1.out).2.2.2.2.1, (HS.out _ HB1.out).2.2.2.2.2.1, (HS.out _ HB1.out).2.2.2.2.2.2.1, (HS.out _ HB1.out).2.2.2.2.2.2.2.1, (HS.out _ HB1.out).2.2.2.2.2.2.2.2.1, (HS.out _ HB1.out).2.2.2.2.2.2.2.2.2.1, (HS.out _ HB1.out).2.2.2.2.2.2.2.2.2.2⟩ (fun hHeld => ?_)
  refine with_tabW first.tab3 first.bits3 (fun HT_ HW_ => ?_)
  generalize wB.drew = w1 at HB1 HXgk1 hHeld ⊢
  refine pure_ (i := 0) (N := some 10) (v := ?_) (a' := ?_) #[true, false, false, false, false, false, false, false, false, false, false, false, false, false, false, false, false] rfl rfl (any_of HT_.out (by kernel_rfl)) (fun _ _ _ h => h) (Or.inl ⟨by rfl, ?_⟩) ?_ ?_
  rotate_left
  · intro w'
    go_simp
    with_reducible rfl
  rotate_left
  · simp only [Act.put, List.setIfInBounds_toArray, List.set_cons_zero, List.set_cons_succ, i64_w, i32_w]
    rfl
  refine pure_ (i := 1) (N := some 11) (v := ?_) (a' := ?_) #[true, true, false, false, false, false, false, false, false, false, false, false, false, false, false, false, false] rfl rfl (any_of HT_.out (by kernel_rfl)) (fun _ _ _ h => h) (Or.inl ⟨by rfl, ?_⟩) ?_ ?_
  rotate_left
  · intro w'
    go_simp
    with_reducible rfl
  rotate_left
  · simp only [Act.put, List.setIfInBounds_toArray, List.set_cons_zero, List.set_cons_succ, i64_w, i32_w]
    rfl
  refine pure_ (i := 2) (N := some 12) (v := ?_) (a' := ?_) #[true, true, true, false, false, false, false, false, false, false, false, false, false, false, false, false, false] rfl rfl (any_of HT_.out (by kernel_rfl)) (fun _ _ _ h => h) (Or.inl ⟨by rfl, ?_⟩) ?_ ?_
  rotate_left
  · intro w'
    go_simp
    with_reducible rfl
  rotate_left
  · simp only [Act.put, List.setIfInBounds_toArray, List.set_cons_zero, List.set_cons_succ, i64_w, i32_w]
    rfl
  refine pure_ (i := 7) (N := some 17) (v := ?_) (a' := ?_) #[true, true, true, false, false, false, false, true, false, false, false, false, false, false, false, false, false] rfl rfl (any_of HT_.out (by kernel_rfl)) (fun _ _ _ h => h) (Or.inl ⟨by rfl, ?_⟩) ?_ ?_
  rotate_left
  · intro w'
    go_simp
    with_reducible rfl
  rotate_left
  · simp only [Act.put, List.setIfInBounds_toArray, List.set_cons_zero, List.set_cons_succ, i64_w, i32_w]
    rfl
  refine pure_ (i := 8) (N := some 18) (v := ?_) (a' := ?_) #[true, true, true, false, false, false, false, true, true, false, false, false, false, false, false, false, false] rfl rfl (any_of HT_.out (by kernel_rfl)) (fun _ _ _ h => h) (Or.inl ⟨by rfl, ?_⟩) ?_ ?_
  rotate_left
  · intro w'
    go_simp
    with_reducible rfl
  rotate_left
  · simp only [Act.put, List.setIfInBounds_toArray, List.set_cons_zero, List.set_cons_succ, i64_w, i32_w]
    rfl
  refine pure_ (i := 9) (N := some 19) (v := ?_) (a' := ?_) #[true, true, true, false, false, false, false, true, true, true, false, false, false, false, false, false, false] rfl rfl (any_of HT_.out (by kernel_rfl)) (fun _ _ _ h => h) (Or.inl ⟨by rfl, ?_⟩) ?_ ?_
  rotate_left
  · intro w'
    go_simp
    with_reducible rfl
  rotate_left
  · simp only [Act.put, List.setIfInBounds_toArray, List.set_cons_zero, List.set_cons_succ, i64_w, i32_w]
    rfl
  refine take_ (i := 3) (N := some 13) (v := ?_) (a' := ?_) #[true, true, true, true, false, false, false, true, true, true, false, false, false, false, false, false, false] rfl rfl (take_ofW HT_.out HW_.out (by kernel_rfl)) (fun _ _ _ h => h) (Or.inl ⟨by rfl, ?_⟩) hHeld ?_ ?_
  rotate_left
  · rintro w' ⟨s0, s1, s2, s3, s4, s5, s6, s7, s8, s9, s10⟩
    go_simp
    with_reducible rfl
  rotate_left
  · simp only [Act.put, List.setIfInBounds_toArray, List.set_cons_zero, List.set_cons_succ, i64_w, i32_w]
    rfl
  refine pure_ (i := 4) (N := some 14) (v := ?_) (a' := ?_) #[true, true, true, true, true, false, false, true, true, true, false, false, false, false, false, false, false] rfl rfl (any_of HT_.out (by kernel_rfl)) (fun _ _ _ h => h) (Or.inl ⟨by rfl, ?_⟩) ?_ ?_
  rotate_left
  · intro w'
    go_simp
    with_reducible rfl
  rotate_left
  · simp only [Act.put, List.setIfInBounds_toArray, List.set_cons_zero, List.set_cons_succ, i64_w, i32_w]
    rfl
  refine pure_ (i := 5) (N := some 15) (v := ?_) (a' := ?_) #[true, true, true, true, true, true, false, true, true, true, false, false, false, false, false, false, false] rfl rfl (any_of HT_.out (by kernel_rfl)) (fun _ _ _ h => h) (Or.inl ⟨by rfl, ?_⟩) ?_ ?_
  rotate_left
  · intro w'
    go_simp
    with_reducible rfl
  rotate_left
  · simp only [Act.put, List.setIfInBounds_toArray, List.set_cons_zero, List.set_cons_succ, i64_w, i32_w]
    rfl
  refine take_ (i := 6) (N := some 16) (v := ?_) (a' := ?_) #[true, true, true, true, true, true, true, true, true, true, false, false, false, false, false, false, false] rfl rfl (take_ofW HT_.out HW_.out (by kernel_rfl)) (fun _ _ _ h => h) (Or.inl ⟨by rfl, ?_⟩) hHeld ?_ ?_
  rotate_left
  · rintro w' ⟨s0, s1, s2, s3, s4, s5, s6, s7, s8, s9, s10⟩
    go_simp
    with_reducible rfl
  rotate_left
  · simp only [Act.put, List.setIfInBounds_toArray, List.set_cons_zero, List.set_cons_succ, i64_w, i32_w]
    rfl
  refine take_ (i := 10) (N := some 20) (v := ?_) (a' := ?_) #[true, true, true, true, true, true, true, true, true, true, true, false, false, false, false, false, false] rfl rfl (take_ofW HT_.out HW_.out (by kernel_rfl)) (fun _ _ _ h => h) (Or.inl ⟨by rfl, ?_⟩) hHeld ?_ ?_
  rotate_left
  · rintro w' ⟨s0, s1, s2, s3, s4, s5, s6, s7, s8, s9, s10⟩
    go_simp
    with_reducible rfl
  rotate_left
  · simp only [Act.put, List.setIfInBounds_toArray, List.set_cons_zero, List.set_cons_succ, i64_w, i32_w]
    rfl
  refine pure_ (i := 11) (N := some 21) (v := ?_) (a' := ?_) #[true, true, true, true, true, true, true, true, true, true, true, true, false, false, false, false, false] rfl rfl (any_of HT_.out (by kernel_rfl)) (fun _ _ _ h => h) (Or.inl ⟨by rfl, ?_⟩) ?_ ?_
  rotate_left
  · intro w'
    go_simp
    with_reducible rfl
  rotate_left
  · simp only [Act.put, List.setIfInBounds_toArray, List.set_cons_zero, List.set_cons_succ, i64_w, i32_w]
    rfl
  refine pure_ (i := 12) (N := some 22) (v := ?_) (a' := ?_) #[true, true, true, true, true, true, true, true, true, true, true, true, true, false, false, false, false] rfl rfl (any_of HT_.out (by kernel_rfl)) (fun _ _ _ h => h) (Or.inl ⟨by rfl, ?_⟩) ?_ ?_
  rotate_left
  · intro w'
    go_simp
    with_reducible rfl
  rotate_left
  · simp only [Act.put, List.setIfInBounds_toArray, List.set_cons_zero, List.set_cons_succ, i64_w, i32_w]
    rfl
  refine take_ (i := 13) (N := some 23) (v := ?_) (a' := ?_) #[true, true, true, true, true, true, true, true, true, true, true, true, true, true, false, false, false] rfl rfl (take_ofW HT_.out HW_.out (by kernel_rfl)) (fun _ _ _ h => h) (Or.inl ⟨by rfl, ?_⟩) hHeld ?_ ?_
  rotate_left
  · rintro w' ⟨s0, s1, s2, s3, s4, s5, s6, s7, s8, s9, s10⟩
    go_simp
    with_reducible rfl
  rotate_left
  · simp only [Act.put, List.setIfInBounds_toArray, List.set_cons_zero, List.set_cons_succ, i64_w, i32_w]
    rfl
  refine one_ (i := 14) (N := none) #[true, true, true, true, true, true, true, true, true, true, true, true, true, true, true, false, false] rfl rfl (one_of HT_.out (by kernel_rfl)) (by decide) (fun K hK => ?_)
  refine rowstore_ (by rfl) rfl 33 (.tmp 2) (.tmp 16) rfl w.heap.size #[.int .u8 (at_ l 0).1.1, .int .u8 (at_ l 0).1.2.1, .int .u8 (at_ l 0).1.2.2.1, .int .u8 (at_ l 0).1.2.2.2.1, .int .u8 (at_ l 0).1.2.2.2.2.1, .int .u8 (at_ l 0).1.2.2.2.2.2.1, .int .u8 (at_ l 0).1.2.2.2.2.2.2.1, .int .u8 (at_ l 0).1.2.2.2.2.2.2.2] (by rfl) (by rfl) _ _ HXgk1.out infoK rfl (by simp [Value.oneCell']) ?_
  have hs := chg_row (cs := #[.int .u8 (at_ l 0).1.1, .int .u8 (at_ l 0).1.2.1, .int .u8 (at_ l 0).1.2.2.1, .int .u8 (at_ l 0).1.2.2.2.1, .int .u8 (at_ l 0).1.2.2.2.2.1, .int .u8 (at_ l 0).1.2.2.2.2.2.1, .int .u8 (at_ l 0).1.2.2.2.2.2.2.1, .int .u8 (at_ l 0).1.2.2.2.2.2.2.2]) HXgk1.out
  have HXgk2 := Aside0.mk hs.1
  have HB2 : Aside0 (Below w.heap.size w _) := ⟨HB1.out.trans (hs.2.below HB1.out.size (fun k hk => by have e : k = w.heap.size := hk; omega))⟩
  clear hs HB1 HXgk1
  generalize w1.setRow w.heap.size #[.int .u8 (at_ l 0).1.1, .int .u8 (at_ l 0).1.2.1, .int .u8 (at_ l 0).1.2.2.1, .int .u8 (at_ l 0).1.2.2.2.1, .int .u8 (at_ l 0).1.2.2.2.2.1, .int .u8 (at_ l 0).1.2.2.2.2.2.1, .int .u8 (at_ l 0).1.2.2.2.2.2.2.1, .int .u8 (at_ l 0).1.2.2.2.2.2.2.2] = w2 at HB2 HXgk2 ⊢
  refine hK.out _ _ ⟨(HS.out _ HB2.out).1, (HS.out _ HB2.out).2.1, (HS.out _ HB2.out).2.2.1, (HS.out _ HB2.out).2.2.2.1, (HS.out _ HB2.out).2.2.2.2.1, (HS.out _ HB2.out).2.2.2.2.2.1, (HS.out _ HB2.out).2.2.2.2.2.2.1, (HS.out _ HB2.out).2.2.2.2.2.2.2.1, (HS.out _ HB2.out).2.2.2.2.2.2.2.2.1, (HS.out _ HB2.out).2.2.2.2.2.2.2.2.2.1, (HS.out _ HB2.out).2.2.2.2.2.2.2.2.2.2⟩ (fun hHeld => ?_)
  clear hK K
  refine pure_ (i := 15) (N := some 3) (v := ?_) (a' := ?_) #[true, true, true, true, true, true, true, true, true, true, true, true, true, true, true, true, false] rfl rfl (any_of HT_.out (by kernel_rfl)) (fun _ _ _ h => h) (Or.inl ⟨by rfl, ?_⟩) ?_ ?_
  rotate_left
  · intro w'
    go_simp
    with_reducible rfl
  rotate_left
  · simp only [Act.put, List.setIfInBounds_toArray, List.set_cons_zero, List.set_cons_succ, i64_w, i32_w]
    rfl
  refine pure_ (i := 16) (N := some 4) (v := ?_) (a' := ?_) #[true, true, true, true, true, true, true, true, true, true, true, true, true, true, true, true, true] rfl rfl (any_of HT_.out (by kernel_rfl)) (fun _ _ _ h => h) (Or.inl ⟨by rfl, ?_⟩) ?_ ?_
  rotate_left
  · intro w'
    go_simp
    with_reducible rfl
  rotate_left
  · simp only [Act.put, List.setIfInBounds_toArray, List.set_cons_zero, List.set_cons_succ, i64_w, i32_w]
    rfl
  refine done_ (done_of HT_.out (by kernel_rfl)) ?_
  try clear hHeld
  try go_wp2
  refine bodyPost_ret (results_list (rs := [.cell 2 33, .tmp 3, .tmp 4]) rfl (by simp) (.cell w.heap.size 33 _ (0, 0) _ rfl HXgk2.out Try.underlying33 rfl infoK (.tmp (.tmp .nil)))) rfl ?_
  exact ⟨rfl, HB2.out⟩
set_option maxHeartbeats 8000000 in
set_option maxRecDepth 100000 in
theorem first_none (base g : Nat) (fv : Value) (A : Option Addr) (cap b : Nat) (c : Int) (w : World) (h : HAt w base g fv A cap b [] c) :
    Calls Try.prog 37 #[.pointer (some ⟨g, 0, none⟩)] w fun e w' => e = .returned (.tuple #[.agg #[.int .u8 0, .int .u8 0, .int .u8 0, .int .u8 0, .int .u8 0, .int .u8 0, .int .u8 0, .int .u8 0], .int .i64 0, .bool false]) ∧ Below w.heap.size w w' := by
  have H := Aside0.mk h
  clear h
  go_enter Try.func37, Try.ntmps37
  go_wp2_with fail
  have HB0 : Aside0 (Below w.heap.size w w) := ⟨Below.refl _ _⟩
  have HXgk : Aside0 ((w.alloc (.cells #[.int .u8 0, .int .u8 0, .int .u8 0, .int .u8 0, .int .u8 0, .int .u8 0, .int .u8 0, .int .u8 0] 33)).heap[w.heap.size]? = some (.cells #[.int .u8 0, .int .u8 0, .int .u8 0, .int .u8 0, .int .u8 0, .int .u8 0, .int .u8 0, .int .u8 0] 33 (0, 0))) := ⟨blk_new _ _⟩
  have HB1 := Aside0.mk (below_alloc HB0.out (.cells #[.int .u8 0, .int .u8 0, .int .u8 0, .int .u8 0, .int .u8 0, .int .u8 0, .int .u8 0, .int .u8 0] 33))
  have HQ := Aside0.mk (H.out.below HB1.out)
  have HBB := HB1
  clear HB0 HB1
  generalize (w.alloc (.cells #[.int .u8 0, .int .u8 0, .int .u8 0, .int .u8 0, .int .u8 0, .int .u8 0, .int .u8 0, .int .u8 0] 33)) = wB at HXgk HQ HBB ⊢
  refine (len_calls base g fv _ cap b [] c wB HQ.out).mono ?_
  rintro e w1 ⟨rfl, hw_⟩
  replace hw_ := hw_.symm
  subst hw_
  have hcc0 : wB.cell? ⟨w.heap.size, 0, none⟩ = some (.int .u8 0) := (blk_cell HXgk.out 0).trans rfl
  have hcc1 : wB.cell? ⟨w.heap.size, 1, none⟩ = some (.int .u8 0) := (blk_cell HXgk.out 1).trans rfl
  have hcc2 : wB.cell? ⟨w.heap.size, 2, none⟩ = some (.int .u8 0) := (blk_cell HXgk.out 2).trans rfl
  have hcc3 : wB.cell? ⟨w.heap.size, 3, none⟩ = some (.int .u8 0) := (blk_cell HXgk.out 3).trans rfl
  have hcc4 : wB.cell? ⟨w.heap.size, 4, none⟩ = some (.int .u8 0) := (blk_cell HXgk.out 4).trans rfl
  have hcc5 : wB.cell? ⟨w.heap.size, 5, none⟩ = some (.int .u8 0) := (blk_cell HXgk.out 5).trans rfl
  have hcc6 : wB.cell? ⟨w.heap.size, 6, none⟩ = some (.int .u8 0) := (blk_cell HXgk.out 6).trans rfl
  have hcc7 : wB.cell? ⟨w.heap.size, 7, none⟩ = some (.int .u8 0) := (blk_cell HXgk.out 7).trans rfl
  have HXA := HXgk
  have HBA := HBB
  clear HXgk HBB
  go_wp2_with ((with_reducible refine gate_store (t := 33) (p := 2) (v := .tmp 8) rfl ?_); refine wpList_store_row rfl 33 (.tmp 2) (.tmp 8) rfl w.heap.size #[.int .u8 0, .int .u8 0, .int .u8 0, .int .u8 0, .int .u8 0, .int .u8 0, .int .u8 0, .int .u8 0] rfl rfl _ _ HXA.out infoK rfl (by simp [Value.oneCell']) ?_; have hs := chg_row (cs := #[.int .u8 0, .int .u8 0, .int .u8 0, .int .u8 0, .int .u8 0, .int .u8 0, .int .u8 0, .int .u8 0]) HXA.out; have HXB := Aside0.mk hs.1; have HBB : Aside0 (Below w.heap.size w (wB.setRow w.heap.size #[.int .u8 0, .int .u8 0, .int .u8 0, .int .u8 0, .int .u8 0, .int .u8 0, .int .u8 0, .int .u8 0])) := ⟨HBA.out.trans (hs.2.below HBA.out.size (fun k hk => by have e : k = w.heap.size := hk; omega))⟩; clear hs; generalize wB.setRow w.heap.size #[.int .u8 0, .int .u8 0, .int .u8 0, .int .u8 0, .int .u8 0, .int .u8 0, .int .u8 0, .int .u8 0] = w2 at HXB HBB ⊢; have hcs0_w2 : w2.cell? ⟨w.heap.size, 0, none⟩ = some (.int .u8 0) := (blk_cell HXB.out 0).trans rfl; have hcs1_w2 : w2.cell? ⟨w.heap.size, 1, none⟩ = some (.int .u8 0) := (blk_cell HXB.out 1).trans rfl; have hcs2_w2 : w2.cell? ⟨w.heap.size, 2, none⟩ = some (.int .u8 0) := (blk_cell HXB.out 2).trans rfl; have hcs3_w2 : w2.cell? ⟨w.heap.size, 3, none⟩ = some (.int .u8 0) := (blk_cell HXB.out 3).trans rfl; have hcs4_w2 : w2.cell? ⟨w.heap.size, 4, none⟩ = some (.int .u8 0) := (blk_cell HXB.out 4).trans rfl; have hcs5_w2 : w2.cell? ⟨w.heap.size, 5, none⟩ = some (.int .u8 0) := (blk_cell HXB.out 5).trans rfl; have hcs6_w2 : w2.cell? ⟨w.heap.size, 6, none⟩ = some (.int .u8 0) := (blk_cell HXB.out 6).trans rfl; have hcs7_w2 : w2.cell? ⟨w.heap.size, 7, none⟩ = some (.int .u8 0) := (blk_cell HXB.out 7).trans rfl)
  refine bodyPost_ret (results_list (rs := [.cell 2 33, .tmp 3, .tmp 4]) rfl (by simp) (.cell w.heap.size 33 _ (0, 0) _ rfl HXB.out Try.underlying33 rfl infoK (.tmp (.tmp .nil)))) rfl ?_
  exact ⟨rfl, HBB.out⟩
def rank.T3 : Bool × List (List Nat × List Nat) := (true, [([], []), ([0], [0]), ([1], [1]), ([2], [2]), ([], []), ([3, 4], [3, 4]), ([5], [5]), ([6], [6]), ([6], [6]), ([7, 0, 1, 2, 3, 4, 5, 6, 7], [7]), ([8, 9, 0, 1, 2, 3, 4, 5, 6, 7, 8, 9], [8])])
def rank.B3 : List Nat := [0, 1, 3, 7, 0, 31, 63, 127, 127, 255, 1023]
theorem rank.tab3 : rtab .any (opsOf Try.f38 3) = rank.T3 := by kernel_rfl
theorem rank.bits3 : waitsOk rank.T3.2 rank.B3 = true := by kernel_rfl
set_option maxHeartbeats 8000000 in
set_option maxRecDepth 100000 in
theorem rank_calls (base g : Nat) (fv : Value) (A : Option Addr) (cap b : Nat) (l : List It) (c : Int) (key : Kt) (w : World) (h : HAt w base g fv A cap b l c) (hk : okK key) {i : Nat} (hi : idxL l key = some i) :
    Calls Try.prog 38 #[.pointer (some ⟨g, 0, none⟩), .agg #[.int .u8 key.1, .int .u8 key.2.1, .int .u8 key.2.2.1, .int .u8 key.2.2.2.1, .int .u8 key.2.2.2.2.1, .int .u8 key.2.2.2.2.2.1, .int .u8 key.2.2.2.2.2.2.1, .int .u8 key.2.2.2.2.2.2.2]] w fun e w' => e = .returned (.tuple #[.int .i64 (at_ l i).2.1, .bool true]) ∧ Below w.heap.size w w' := by
  obtain ⟨hil, hkey⟩ := idx_some hi
  obtain ⟨gl, rfl⟩ := h.some (by omega)
  have hill : (i : Int) < l.length := by omega
  have HI := Aside0.mk hil
  clear hkey
  have H := Aside0.mk h
  have HK := Aside0.mk hk
  have HIX := Aside0.mk hi
  clear h hk hi
  go_enter Try.func38, Try.ntmps38
  go_upto_region 1 with (fail)
  have HB0 : Aside0 (Below w.heap.size w w) := ⟨Below.refl _ _⟩
  have HXgk : Aside0 ((w.alloc (.cells #[.int .u8 key.1, .int .u8 key.2.1, .int .u8 key.2.2.1, .int .u8 key.2.2.2.1, .int .u8 key.2.2.2.2.1, .int .u8 key.2.2.2.2.2.1, .int .u8 key.2.2.2.2.2.2.1, .int .u8 key.2.2.2.2.2.2.2] 33)).heap[w.heap.size]? = some (.cells #[.int .u8 key.1, .int .u8 key.2.1, .int .u8 key.2.2.1, .int .u8 key.2.2.2.1, .int .u8 key.2.2.2.2.1, .int .u8 key.2.2.2.2.2.1, .int .u8 key.2.2.2.2.2.2.1, .int .u8 key.2.2.2.2.2.2.2] 33 (0, 0))) := ⟨blk_new _ _⟩
  have HB1 := Aside0.mk (below_alloc HB0.out (.cells #[.int .u8 key.1, .int .u8 key.2.1, .int .u8 key.2.2.1, .int .u8 key.2.2.2.1, .int .u8 key.2.2.2.2.1, .int .u8 key.2.2.2.2.2.1, .int .u8 key.2.2.2.2.2.2.1, .int .u8 key.2.2.2.2.2.2.2] 33))
  clear HB0
  have HQ := Aside0.mk (H.out.below HB1.out)
  have HBB := HB1
  clear HB1
  generalize (w.alloc (.cells #[.int .u8 key.1, .int .u8 key.2.1, .int .u8 key.2.2.1, .int .u8 key.2.2.2.1, .int .u8 key.2.2.2.2.1, .int .u8 key.2.2.2.2.2.1, .int .u8 key.2.2.2.2.2.2.1, .int .u8 key.2.2.2.2.2.2.2] 33)) = wB at HXgk HQ HBB ⊢
  go_upto_region 3 with (fail)
  have HQ1 : Aside0 (HAt wB.drew base g fv (some ⟨gl, 0, none⟩) cap b l c) := ⟨HQ.out.below (below_drew1 (Below.refl _ _))⟩
  have HB1 : Aside0 (Below w.heap.size w wB.drew) := ⟨below_drew HBB.out⟩
  have HXgk1 : Aside0 (wB.drew.heap[w.heap.size]? = _) := ⟨HXgk.out⟩
  clear HQ HBB HXgk
  refine start_ (n := 11) (S := fun w' => w'.cell? ⟨w.heap.size, 0, none⟩ = some (.int .u8 key.1) ∧ w'.cell? ⟨w.heap.size, 1, none⟩ = some (.int .u8 key.2.1) ∧ w'.cell? ⟨w.heap.size, 2, none⟩ = some (.int .u8 key.2.2.1) ∧ w'.cell? ⟨w.heap.size, 3, none⟩ = some (.int .u8 key.2.2.2.1) ∧ w'.cell? ⟨w.heap.size, 4, none⟩ = some (.int .u8 key.2.2.2.2.1) ∧ w'.cell? ⟨w.heap.size, 5, none⟩ = some (.int .u8 key.2.2.2.2.2.1) ∧ w'.cell? ⟨w.heap.size, 6, none⟩ = some (.int .u8 key.2.2.2.2.2.2.1) ∧ w'.cell? ⟨w.heap.size, 7, none⟩ = some (.int .u8 key.2.2.2.2.2.2.2) ∧ w'.cell? ⟨g, 2, none⟩ = some (.map (some b))) (ds := []) #[false, false, false, false, false, false, false, false, false, false, false] (by kernel_rfl) rfl rfl ⟨(blk_cell HXgk1.out 0).trans rfl, (blk_cell HXgk1.out 1).trans rfl, (blk_cell HXgk1.out 2).trans rfl, (blk_cell HXgk1.out 3).trans rfl, (blk_cell HXgk1.out 4).trans rfl, (blk_cell HXgk1.out 5).trans rfl, (blk_cell HXgk1.out 6).trans rfl, (blk_cell HXgk1.out 7).trans rfl, (blk_cell HQ1.out.blk 2).trans rfl⟩ (fun hHeld => ?_)
  refine with_tabW rank.tab3 rank.bits3 (fun HT_ HW_ => ?_)
  generalize wB.drew = w1 at HQ1 HB1 HXgk1 hHeld ⊢
  have hm := HQ1.out.map.look keyLaw Try.underlying110 (zero_int w1) HK.out
  unfold encK at hm
  rw [HIX.out] at hm
  simp only [Option.getD_some, Option.isSome_some] at hm
  refine pure_ (i := 0) (N := some 11) (v := ?_) (a' := ?_) #[true, false, false, false, false, false, false, false, false, false, false] rfl rfl (any_of HT_.out (by kernel_rfl)) (fun _ _ _ h => h) (Or.inl ⟨by rfl, ?_⟩) ?_ ?_
  rotate_left
  · intro w'
    go_simp
    with_reducible rfl
  rotate_left
  · simp only [Act.put, List.setIfInBounds_toArray, List.set_cons_zero, List.set_cons_succ, i64_w, i32_w]
    rfl
  refine pure_ (i := 1) (N := some 12) (v := ?_) (a' := ?_) #[true, true, false, false, false, false, false, false, false, false, false] rfl rfl (any_of HT_.out (by kernel_rfl)) (fun _ _ _ h => h) (Or.inl ⟨by rfl, ?_⟩) ?_ ?_
  rotate_left
  · intro w'
    go_simp
    with_reducible rfl
  rotate_left
  · simp only [Act.put, List.setIfInBounds_toArray, List.set_cons_zero, List.set_cons_succ, i64_w, i32_w]
    rfl
  refine pure_ (i := 2) (N := some 13) (v := ?_) (a' := ?_) #[true, true, true, false, false, false, false, false, false, false, false] rfl rfl (any_of HT_.out (by kernel_rfl)) (fun _ _ _ h => h) (Or.inl ⟨by rfl, ?_⟩) ?_ ?_
  rotate_left
  · intro w'
    go_simp
    with_reducible rfl
  rotate_left
  · simp only [Act.put, List.setIfInBounds_toArray, List.set_cons_zero, List.set_cons_succ, i64_w, i32_w]
    rfl
  refine take_ (i := 3) (N := some 14) (v := ?_) (a' := ?_) #[true, true, true, true, false, false, false, false, false, false, false] rfl rfl (take_ofW HT_.out HW_.out (by kernel_rfl)) (fun _ _ _ h => h) (Or.inl ⟨by rfl, ?_⟩) hHeld ?_ ?_
  rotate_left
  · rintro w' ⟨s0, s1, s2, s3, s4, s5, s6, s7, s8⟩
    go_simp
    with_reducible rfl
  rotate_left
  · simp only [Act.put, List.setIfInBounds_toArray, List.set_cons_zero, List.set_cons_succ, i64_w, i32_w]
    rfl
  refine take_ (i := 4) (N := some 15) (v := ?_) (a' := ?_) #[true, true, true, true, true, false, false, false, false, false, false] rfl rfl (take_ofW HT_.out HW_.out (by kernel_rfl)) (fun _ _ _ h => h) (Or.inl ⟨by rfl, ?_⟩) hHeld ?_ ?_
  rotate_left
  · rintro w' ⟨s0, s1, s2, s3, s4, s5, s6, s7, s8⟩
    go_simp
    with_reducible rfl
  rotate_left
  · simp only [Act.put, List.setIfInBounds_toArray, List.set_cons_zero, List.set_cons_succ, i64_w, i32_w]
    rfl
  refine one_ (i := 5) (N := some 16) #[true, true, true, true, true, true, false, false, false, false, false] rfl rfl (one_of HT_.out (by kernel_rfl)) (by decide) (fun K hK => ?_)
  refine value_ (v := .tuple #[.int .i64 (i : Nat), .bool true]) (w1 := w1) (by rfl) rfl ?_ ?_
  · first | (go_simp; done) | (go_simp; rfl)
  clear hm
  refine hK.out _ _ ⟨(blk_cell HXgk1.out 0).trans rfl, (blk_cell HXgk1.out 1).trans rfl, (blk_cell HXgk1.out 2).trans rfl, (blk_cell HXgk1.out 3).trans rfl, (blk_cell HXgk1.out 4).trans rfl, (blk_cell HXgk1.out 5).trans rfl, (blk_cell HXgk1.out 6).trans rfl, (blk_cell HXgk1.out 7).trans rfl, (blk_cell HQ1.out.blk 2).trans rfl⟩ (fun hHeld => ?_)
  clear hK K
  refine norm_ (a' := ?_) ?_ ?_
  rotate_left
  · show Act.put _ (some 16) _ = _
    simp only [Act.put, List.setIfInBounds_toArray, List.set_cons_zero, List.set_cons_succ, i64_w, i32_w]
    rfl
  refine pure_ (i := 6) (N := some 10) (v := ?_) (a' := ?_) #[true, true, true, true, true, true, true, false, false, false, false] rfl rfl (any_of HT_.out (by kernel_rfl)) (fun _ _ _ h => h) (Or.inl ⟨by rfl, ?_⟩) ?_ ?_
  rotate_left
  · intro w'
    go_simp
    with_reducible rfl
  rotate_left
  · simp only [Act.put, List.setIfInBounds_toArray, List.set_cons_zero, List.set_cons_succ, i64_w, i32_w]
    rfl
  refine pure_ (i := 7) (N := some 17) (v := ?_) (a' := ?_) #[true, true, true, true, true, true, true, true, false, false, false] rfl rfl (any_of HT_.out (by kernel_rfl)) (fun _ _ _ h => h) (Or.inl ⟨by rfl, ?_⟩) ?_ ?_
  rotate_left
  · intro w'
    go_simp
    with_reducible rfl
  rotate_left
  · simp only [Act.put, List.setIfInBounds_toArray, List.set_cons_zero, List.set_cons_succ, i64_w, i32_w]
    rfl
  refine pure_ (i := 8) (N := some 18) (v := ?_) (a' := ?_) #[true, true, true, true, true, true, true, true, true, false, false] rfl rfl (any_of HT_.out (by kernel_rfl)) (fun _ _ _ h => h) (Or.inl ⟨by rfl, ?_⟩) ?_ ?_
  rotate_left
  · intro w'
    go_simp
    with_reducible rfl
  rotate_left
  · simp only [Act.put, List.setIfInBounds_toArray, List.set_cons_zero, List.set_cons_succ, i64_w, i32_w]
    rfl
  refine pure_ (i := 9) (N := some 6) (v := ?_) (a' := ?_) #[true, true, true, true, true, true, true, true, true, true, false] rfl rfl (any_of HT_.out (by kernel_rfl)) (fun _ _ _ h => h) (Or.inl ⟨by rfl, ?_⟩) ?_ ?_
  rotate_left
  · intro w'
    go_simp
    with_reducible rfl
  rotate_left
  · simp only [Act.put, List.setIfInBounds_toArray, List.set_cons_zero, List.set_cons_succ, i64_w, i32_w]
    rfl
  refine pure_ (i := 10) (N := some 5) (v := ?_) (a' := ?_) #[true, true, true, true, true, true, true, true, true, true, true] rfl rfl (any_of HT_.out (by kernel_rfl)) (fun _ _ _ h => h) (Or.inl ⟨by rfl, ?_⟩) ?_ ?_
  rotate_left
  · intro w'
    go_simp
    with_reducible rfl
  rotate_left
  · simp only [Act.put, List.setIfInBounds_toArray, List.set_cons_zero, List.set_cons_succ, i64_w, i32_w]
    rfl
  refine done_ (done_of HT_.out (by kernel_rfl)) ?_
  try clear hHeld
  have hc1 : w1.cell? ⟨g, 1, none⟩ = some (.slice (some ⟨gl, 0, none⟩) l.length cap) := (blk_cell HQ1.out.blk 1).trans rfl
  obtain ⟨i0, i1, i2, i3, i4, i5, i6, i7, i8, i9, _⟩ := item_cells HQ1.out.row HI.out
  clear i0 i1 i2 i3 i4 i5 i6 i7 i9
  go_wp2
  go_ret2
  exact ⟨rfl, HB1.out⟩
set_option maxHeartbeats 8000000 in
set_option maxRecDepth 100000 in
theorem rank_none (base g : Nat) (fv : Value) (A : Option Addr) (cap b : Nat) (l : List It) (c : Int) (key : Kt) (w : World) (h : HAt w base g fv A cap b l c) (hk : okK key) (hi : idxL l key = none) :
    Calls Try.prog 38 #[.pointer (some ⟨g, 0, none⟩), .agg #[.int .u8 key.1, .int .u8 key.2.1, .int .u8 key.2.2.1, .int .u8 key.2.2.2.1, .int .u8 key.2.2.2.2.1, .int .u8 key.2.2.2.2.2.1, .int .u8 key.2.2.2.2.2.2.1, .int .u8 key.2.2.2.2.2.2.2]] w fun e w' => e = .returned (.tuple #[.int .i64 0, .bool false]) ∧ Below w.heap.size w w' := by
  have H := Aside0.mk h
  have HK := Aside0.mk hk
  have HIX := Aside0.mk hi
  clear h hk hi
  go_enter Try.func38, Try.ntmps38
  go_upto_region 1 with (fail)
  have HB0 : Aside0 (Below w.heap.size w w) := ⟨Below.refl _ _⟩
  have HXgk : Aside0 ((w.alloc (.cells #[.int .u8 key.1, .int .u8 key.2.1, .int .u8 key.2.2.1, .int .u8 key.2.2.2.1, .int .u8 key.2.2.2.2.1, .int .u8 key.2.2.2.2.2.1, .int .u8 key.2.2.2.2.2.2.1, .int .u8 key.2.2.2.2.2.2.2] 33)).heap[w.heap.size]? = some (.cells #[.int .u8 key.1, .int .u8 key.2.1, .int .u8 key.2.2.1, .int .u8 key.2.2.2.1, .int .u8 key.2.2.2.2.1, .int .u8 key.2.2.2.2.2.1, .int .u8 key.2.2.2.2.2.2.1, .int .u8 key.2.2.2.2.2.2.2] 33 (0, 0))) := ⟨blk_new _ _⟩
  have HB1 := Aside0.mk (below_alloc HB0.out (.cells #[.int .u8 key.1, .int .u8 key.2.1, .int .u8 key.2.2.1, .int .u8 key.2.2.2.1, .int .u8 key.2.2.2.2.1, .int .u8 key.2.2.2.2.2.1, .int .u8 key.2.2.2.2.2.2.1, .int .u8 key.2.2.2.2.2.2.2] 33))
  clear HB0
  have HQ := Aside0.mk (H.out.below HB1.out)
  have HBB := HB1
  clear HB1
  generalize (w.alloc (.cells #[.int .u8 key.1, .int .u8 key.2.1, .int .u8 key.2.2.1, .int .u8 key.2.2.2.1, .int .u8 key.2.2.2.2.1, .int .u8 key.2.2.2.2.2.1, .int .u8 key.2.2.2.2.2.2.1, .int .u8 key.2.2.2.2.2.2.2] 33)) = wB at HXgk HQ HBB ⊢
  go_upto_region 3 with (fail)
  have HQ1 : Aside0 (HAt wB.drew base g fv A cap b l c) := ⟨HQ.out.below (below_drew1 (Below.refl _ _))⟩
  have HB1 : Aside0 (Below w.heap.size w wB.drew) := ⟨below_drew HBB.out⟩
  have HXgk1 : Aside0 (wB.drew.heap[w.heap.size]? = _) := ⟨HXgk.out⟩
  clear HQ HBB HXgk
  refine start_ (n := 11) (S := fun w' => w'.cell? ⟨w.heap.size, 0, none⟩ = some (.int .u8 key.1) ∧ w'.cell? ⟨w.heap.size, 1, none⟩ = some (.int .u8 key.2.1) ∧ w'.cell? ⟨w.heap.size, 2, none⟩ = some (.int .u8 key.2.2.1) ∧ w'.cell? ⟨w.heap.size, 3, none⟩ = some (.int .u8 key.2.2.2.1) ∧ w'.cell? ⟨w.heap.size, 4, none⟩ = some (.int .u8 key.2.2.2.2.1) ∧ w'.cell? ⟨w.heap.size, 5, none⟩ = some (.int .u8 key.2.2.2.2.2.1) ∧ w'.cell? ⟨w.heap.size, 6, none⟩ = some (.int .u8 key.2.2.2.2.2.2.1) ∧ w'.cell? ⟨w.heap.size, 7, none⟩ = some (.int .u8 key.2.2.2.2.2.2.2) ∧ w'.cell? ⟨g, 2, none⟩ = some (.map (some b))) (ds := []) #[false, false, false, false, false, false, false, false, false, false, false] (by kernel_rfl) rfl rfl ⟨(blk_cell HXgk1.out 0).trans rfl, (blk_cell HXgk1.out 1).trans rfl, (blk_cell HXgk1.out 2).trans rfl, (blk_cell HXgk1.out 3).trans rfl, (blk_cell HXgk1.out 4).trans rfl, (blk_cell HXgk1.out 5).trans rfl, (blk_cell HXgk1.out 6).trans rfl, (blk_cell HXgk1.out 7).trans rfl, (blk_cell HQ1.out.blk 2).trans rfl⟩ (fun hHeld => ?_)
  refine with_tabW rank.tab3 rank.bits3 (fun HT_ HW_ => ?_)
  generalize wB.drew = w1 at HQ1 HB1 HXgk1 hHeld ⊢
  have hm := HQ1.out.map.look keyLaw Try.underlying110 (zero_int w1) HK.out
  unfold encK at hm
  rw [HIX.out] at hm
  simp only [Option.getD_none, Option.isSome_none] at hm
  refine pure_ (i := 0) (N := some 11) (v := ?_) (a' := ?_) #[true, false, false, false, false, false, false, false, false, false, false] rfl rfl (any_of HT_.out (by kernel_rfl)) (fun _ _ _ h => h) (Or.inl ⟨by rfl, ?_⟩) ?_ ?_
  rotate_left
  · intro w'
    go_simp
    with_reducible rfl
  rotate_left
  · simp only [Act.put, List.setIfInBounds_toArray, List.set_cons_zero, List.set_cons_succ, i64_w, i32_w]
    rfl
  refine pure_ (i := 1) (N := some 12) (v := ?_) (a' := ?_) #[true, true, false, false, false, false, false, false, false, false, false] rfl rfl (any_of HT_.out (by kernel_rfl)) (fun _ _ _ h => h) (Or.inl ⟨by rfl, ?_⟩) ?_ ?_
  rotate_left
  · intro w'
    go_simp
    with_reducible rfl
  rotate_left
  · simp only [Act.put, List.setIfInBounds_toArray, List.set_cons_zero, List.set_cons_succ, i64_w, i32_w]
    rfl
  refine pure_ (i := 2) (N := some 13) (v := ?_) (a' := ?_) #[true, true, true, false, false, false, false, false, false, false, false] rfl rfl (any_of HT_.out (by kernel_rfl)) (fun _ _ _ h => h) (Or.inl ⟨by rfl, ?_⟩) ?_ ?_
  rotate_left
  · intro w'
    go_simp
    with_reducible rfl
  rotate_left
  · simp only [Act.put, List.setIfInBounds_toArray, List.set_cons_zero, List.set_cons_succ, i64_w, i32_w]
    rfl
  refine take_ (i := 3) (N := some 14) (v := ?_) (a' := ?_) #[true, true, true, true, false, false, false, false, false, false, false] rfl rfl (take_ofW HT_.out HW_.out (by kernel_rfl)) (fun _ _ _ h => h) (Or.inl ⟨by rfl, ?_⟩) hHeld ?_ ?_
  rotate_left
  · rintro w' ⟨s0, s1, s2, s3, s4, s5, s6, s7, s8⟩
    go_simp
    with_reducible rfl
  rotate_left
  · simp only [Act.put, List.setIfInBounds_toArray, List.set_cons_zero, List.set_cons_succ, i64_w, i32_w]
    rfl
  refine take_ (i := 4) (N := some 15) (v := ?_) (a' := ?_) #[true, true, true, true, true, false, false, false, false, false, false] rfl rfl (take_ofW HT_.out HW_.out (by kernel_rfl)) (fun _ _ _ h => h) (Or.inl ⟨by rfl, ?_⟩) hHeld ?_ ?_
  rotate_left
  · rintro w' ⟨s0, s1, s2, s3, s4, s5, s6, s7, s8⟩
    go_simp
    with_reducible rfl
  rotate_left
  · simp only [Act.put, List.setIfInBounds_toArray, List.set_cons_zero, List.set_cons_succ, i64_w, i32_w]
    rfl
  refine one_ (i := 5) (N := some 16) #[true, true, true, true, true, true, false, false, false, false, false] rfl rfl (one_of HT_.out (by kernel_rfl)) (by decide) (fun K hK => ?_)
  refine value_ (v := .tuple #[.int .i64 0, .bool false]) (w1 := w1) (by rfl) rfl ?_ ?_
  · first | (go_simp; done) | (go_simp; rfl)
  clear hm
  refine hK.out _ _ ⟨(blk_cell HXgk1.out 0).trans rfl, (blk_cell HXgk1.out 1).trans rfl, (blk_cell HXgk1.out 2).trans rfl, (blk_cell HXgk1.out 3).trans rfl, (blk_cell HXgk1.out 4).trans rfl, (blk_cell HXgk1.out 5).trans rfl, (blk_cell HXgk1.out 6).trans rfl, (blk_cell HXgk1.out 7).trans rfl, (blk_cell HQ1.out.blk 2).trans rfl⟩ (fun hHeld => ?_)
  clear hK K
  refine norm_ (a' := ?_) ?_ ?_
  rotate_left
  · show Act.put _ (some 16) _ = _
    simp only [Act.put, List.setIfInBounds_toArray, List.set_cons_zero, List.set_cons_succ, i64_w, i32_w]
    rfl
  refine pure_ (i := 6) (N := some 10) (v := ?_) (a' := ?_) #[true, true, true, true, true, true, true, false, false, false, false] rfl rfl (any_of HT_.out (by kernel_rfl)) (fun _ _ _ h => h) (Or.inl ⟨by rfl, ?_⟩) ?_ ?_
  rotate_left
  · intro w'
    go_simp
    with_reducible rfl
  rotate_left
  · simp only [Act.put, List.setIfInBounds_toArray, List.set_cons_zero, List.set_cons_succ, i64_w, i32_w]
    rfl
  refine pure_ (i := 7) (N := some 17) (v := ?_) (a' := ?_) #[true, true, true, true, true, true, true, true, false, false, false] rfl rfl (any_of HT_.out (by kernel_rfl)) (fun _ _ _ h => h) (Or.inl ⟨by rfl, ?_⟩) ?_ ?_
  rotate_left
  · intro w'
    go_simp
    with_reducible rfl
  rotate_left
  · simp only [Act.put, List.setIfInBounds_toArray, List.set_cons_zero, List.set_cons_succ, i64_w, i32_w]
    rfl
  refine pure_ (i := 8) (N := some 18) (v := ?_) (a' := ?_) #[true, true, true, true, true, true, true, true, true, false, false] rfl rfl (any_of HT_.out (by kernel_rfl)) (fun _ _ _ h => h) (Or.inl ⟨by rfl, ?_⟩) ?_ ?_
  rotate_left
  · intro w'
    go_simp
    with_reducible rfl
  rotate_left
  · simp only [Act.put, List.setIfInBounds_toArray, List.set_cons_zero, List.set_cons_succ, i64_w, i32_w]
    rfl
  refine pure_ (i := 9) (N := some 6) (v := ?_) (a' := ?_) #[true, true, true, true, true, true, true, true, true, true, false] rfl rfl (any_of HT_.out (by kernel_rfl)) (fun _ _ _ h => h) (Or.inl ⟨by rfl, ?_⟩) ?_ ?_
  rotate_left
  · intro w'
    go_simp
    with_reducible rfl
  rotate_left
  · simp only [Act.put, List.setIfInBounds_toArray, List.set_cons_zero, List.set_cons_succ, i64_w, i32_w]
    rfl
  refine pure_ (i := 10) (N := some 5) (v := ?_) (a' := ?_) #[true, true, true, true, true, true, true, true, true, true, true] rfl rfl (any_of HT_.out (by kernel_rfl)) (fun _ _ _ h => h) (Or.inl ⟨by rfl, ?_⟩) ?_ ?_
  rotate_left
  · intro w'
    go_simp
    with_reducible rfl
  rotate_left
  · simp only [Act.put, List.setIfInBounds_toArray, List.set_cons_zero, List.set_cons_succ, i64_w, i32_w]
    rfl
  refine done_ (done_of HT_.out (by kernel_rfl)) ?_
  try clear hHeld
  go_wp2
  go_ret2
  exact ⟨rfl, HB1.out⟩
def drop.T3 : Bool × List (List Nat × List Nat) := (true, [([], []), ([0], [0]), ([1], [1]), ([2], [2]), ([], []), ([3, 4], [3, 4]), ([5], [5]), ([6], [6]), ([6], [6]), ([7, 0, 1, 2, 3, 4, 5, 6, 7], [7]), ([8, 9, 0, 1, 2, 3, 4, 5, 6, 7, 8, 9], [8])])
def drop.B3 : List Nat := [0, 1, 3, 7, 0, 31, 63, 127, 127, 255, 1023]
theorem drop.tab3 : rtab .any (opsOf Try.f34 3) = drop.T3 := by kernel_rfl
theorem drop.bits3 : waitsOk drop.T3.2 drop.B3 = true := by kernel_rfl
def drop.T9 : Bool × List (List Nat × List Nat) := (true, [([], []), ([0], [0]), ([1], [1]), ([2], [2]), ([], []), ([3, 4], [3, 4])])
def drop.B9 : List Nat := [0, 1, 3, 7, 0, 31]
theorem drop.tab9 : rtab .any (opsOf Try.f34 9) = drop.T9 := by kernel_rfl
theorem drop.bits9 : waitsOk drop.T9.2 drop.B9 = true := by kernel_rfl
set_option maxHeartbeats 8000000 in
set_option maxRecDepth 100000 in
theorem drop_none (base g : Nat) (fv : Value) (A : Option Addr) (cap b : Nat) (l : List It) (c : Int) (key : Kt) (w : World) (h : HAt w base g fv A cap b l c) (hk : okK key) (hi : idxL l key = none) :
    Calls Try.prog 34 #[.pointer (some ⟨g, 0, none⟩), .agg #[.int .u8 key.1, .int .u8 key.2.1, .int .u8 key.2.2.1, .int .u8 key.2.2.2.1, .int .u8 key.2.2.2.2.1, .int .u8 key.2.2.2.2.2.1, .int .u8 key.2.2.2.2.2.2.1, .int .u8 key.2.2.2.2.2.2.2]] w fun e w' => e = .returned (.bool false) ∧ Below w.heap.size w w' := by
  have H := Aside0.mk h
  have HK := Aside0.mk hk
  have HIX := Aside0.mk hi
  clear h hk hi
  go_enter Try.func34, Try.ntmps34
  go_upto_region 1 with (fail)
  have HB0 : Aside0 (Below w.heap.size w w) := ⟨Below.refl _ _⟩
  have HXgk : Aside0 ((w.alloc (.cells #[.int .u8 key.1, .int .u8 key.2.1, .int .u8 key.2.2.1, .int .u8 key.2.2.2.1, .int .u8 key.2.2.2.2.1, .int .u8 key.2.2.2.2.2.1, .int .u8 key.2.2.2.2.2.2.1, .int .u8 key.2.2.2.2.2.2.2] 33)).heap[w.heap.size]? = some (.cells #[.int .u8 key.1, .int .u8 key.2.1, .int .u8 key.2.2.1, .int .u8 key.2.2.2.1, .int .u8 key.2.2.2.2.1, .int .u8 key.2.2.2.2.2.1, .int .u8 key.2.2.2.2.2.2.1, .int .u8 key.2.2.2.2.2.2.2] 33 (0, 0))) := ⟨blk_new _ _⟩
  have HB1 := Aside0.mk (below_alloc HB0.out (.cells #[.int .u8 key.1, .int .u8 key.2.1, .int .u8 key.2.2.1, .int .u8 key.2.2.2.1, .int .u8 key.2.2.2.2.1, .int .u8 key.2.2.2.2.2.1, .int .u8 key.2.2.2.2.2.2.1, .int .u8 key.2.2.2.2.2.2.2] 33))
  clear HB0
  have HQ := Aside0.mk (H.out.below HB1.out)
  have HBB := HB1
  clear HB1
  generalize (w.alloc (.cells #[.int .u8 key.1, .int .u8 key.2.1, .int .u8 key.2.2.1, .int .u8 key.2.2.2.1, .int .u8 key.2.2.2.2.1, .int .u8 key.2.2.2.2.2.1, .int .u8 key.2.2.2.2.2.2.1, .int .u8 key.2.2.2.2.2.2.2] 33)) = wB at HXgk HQ HBB ⊢
  go_upto_region 3 with (fail)
  have HQ1 : Aside0 (HAt wB.drew base g fv A cap b l c) := ⟨HQ.out.below (below_drew1 (Below.refl _ _))⟩
  have HB1 : Aside0 (Below w.heap.size w wB.drew) := ⟨below_drew HBB.out⟩
  have HXgk1 : Aside0 (wB.drew.heap[w.heap.size]? = _) := ⟨HXgk.out⟩
  clear HQ HBB HXgk
  refine start_ (n := 11) (S := fun w' => w'.cell? ⟨w.heap.size, 0, none⟩ = some (.int .u8 key.1) ∧ w'.cell? ⟨w.heap.size, 1, none⟩ = some (.int .u8 key.2.1) ∧ w'.cell? ⟨w.heap.size, 2, none⟩ = some (.int .u8 key.2.2.1) ∧ w'.cell? ⟨w.heap.size, 3, none⟩ = some (.int .u8 key.2.2.2.1) ∧ w'.cell? ⟨w.heap.size, 4, none⟩ = some (.int .u8 key.2.2.2.2.1) ∧ w'.cell? ⟨w.heap.size, 5, none⟩ = some (.int .u8 key.2.2.2.2.2.1) ∧ w'.cell? ⟨w.heap.size, 6, none⟩ = some (.int .u8 key.2.2.2.2.2.2.1) ∧ w'.cell? ⟨w.heap.size, 7, none⟩ = some (.int .u8 key.2.2.2.2.2.2.2) ∧ w'.cell? ⟨g, 2, none⟩ = some (.map (some b))) (ds := []) #[false, false, false, false, false, false, false, false, false, false, false] (by kernel_rfl) rfl rfl ⟨(blk_cell HXgk1.out 0).trans rfl, (blk_cell HXgk1.out 1).trans rfl, (blk_cell HXgk1.out 2).trans rfl, (blk_cell HXgk1.out 3).trans rfl, (blk_cell HXgk1.out 4).trans rfl, (blk_cell HXgk1.out 5).trans rfl, (blk_cell HXgk1.out 6).trans rfl, (blk_cell HXgk1.out 7).trans rfl, (blk_cell HQ1.out.blk 2).trans rfl⟩ (fun hHeld => ?_)
  refine with_tabW drop.tab3 drop.bits3 (fun HT_ HW_ => ?_)
  generalize wB.drew = w1 at HQ1 HB1 HXgk1 hHeld ⊢
  have hm := HQ1.out.map.look keyLaw Try.underlying110 (zero_int w1) HK.out
  unfold encK at hm
  rw [HIX.out] at hm
  simp only [Option.getD_none, Option.isSome_none] at hm
  refine pure_ (i := 0) (N := some 11) (v := ?_) (a' := ?_) #[true, false, false, false, false, false, false, false, false, false, false] rfl rfl (any_of HT_.out (by kernel_rfl)) (fun _ _ _ h => h) (Or.inl ⟨by rfl, ?_⟩) ?_ ?_
  rotate_left
  · intro w'
    go_simp
    with_reducible rfl
  rotate_left
  · simp only [Act.put, List.setIfInBounds_toArray, List.set_cons_zero, List.set_cons_succ, i64_w, i32_w]
    rfl
  refine pure_ (i := 1) (N := some 12) (v := ?_) (a' := ?_) #[true, true, false, false, false, false, false, false, false, false, false] rfl rfl (any_of HT_.out (by kernel_rfl)) (fun _ _ _ h => h) (Or.inl ⟨by rfl, ?_⟩) ?_ ?_
  rotate_left
  · intro w'
    go_simp
    with_reducible rfl
  rotate_left
  · simp only [Act.put, List.setIfInBounds_toArray, List.set_cons_zero, List.set_cons_succ, i64_w, i32_w]
    rfl
  refine pure_ (i := 2) (N := some 13) (v := ?_) (a' := ?_) #[true, true, true, false, false, false, false, false, false, false, false] rfl rfl (any_of HT_.out (by kernel_rfl)) (fun _ _ _ h => h) (Or.inl ⟨by rfl, ?_⟩) ?_ ?_
  rotate_left
  · intro w'
    go_simp
    with_reducible rfl
  rotate_left
  · simp only [Act.put, List.setIfInBounds_toArray, List.set_cons_zero, List.set_cons_succ, i64_w, i32_w]
    rfl
  refine take_ (i := 3) (N := some 14) (v := ?_) (a' := ?_) #[true, true, true, true, false, false, false, false, false, false, false] rfl rfl (take_ofW HT_.out HW_.out (by kernel_rfl)) (fun _ _ _ h => h) (Or.inl ⟨by rfl, ?_⟩) hHeld ?_ ?_
  rotate_left
  · rintro w' ⟨s0, s1, s2, s3, s4, s5, s6, s7, s8⟩
    go_simp
    with_reducible rfl
  rotate_left
  · simp only [Act.put, List.setIfInBounds_toArray, List.set_cons_zero, List.set_cons_succ, i64_w, i32_w]
    rfl
  refine take_ (i := 4) (N := some 15) (v := ?_) (a' := ?_) #[true, true, true, true, true, false, false, false, false, false, false] rfl rfl (take_ofW HT_.out HW_.out (by kernel_rfl)) (fun _ _ _ h => h) (Or.inl ⟨by rfl, ?_⟩) hHeld ?_ ?_
  rotate_left
  · rintro w' ⟨s0, s1, s2, s3, s4, s5, s6, s7, s8⟩
    go_simp
    with_reducible rfl
  rotate_left
  · simp only [Act.put, List.setIfInBounds_toArray, List.set_cons_zero, List.set_cons_succ, i64_w, i32_w]
    rfl
  refine one_ (i := 5) (N := some 16) #[true, true, true, true, true, true, false, false, false, false, false] rfl rfl (one_of HT_.out (by kernel_rfl)) (by decide) (fun K hK => ?_)
  refine value_ (v := .tuple #[.int .i64 0, .bool false]) (w1 := w1) (by rfl) rfl ?_ ?_
  · first | (go_simp; done) | (go_simp; rfl)
  clear hm
  refine hK.out _ _ ⟨(blk_cell HXgk1.out 0).trans rfl, (blk_cell HXgk1.out 1).trans rfl, (blk_cell HXgk1.out 2).trans rfl, (blk_cell HXgk1.out 3).trans rfl, (blk_cell HXgk1.out 4).trans rfl, (blk_cell HXgk1.out 5).trans rfl, (blk_cell HXgk1.out 6).trans rfl, (blk_cell HXgk1.out 7).trans rfl, (blk_cell HQ1.out.blk 2).trans rfl⟩ (fun hHeld => ?_)
  clear hK K
  refine norm_ (a' := ?_) ?_ ?_
  rotate_left
  · show Act.put _ (some 16) _ = _
    simp only [Act.put, List.setIfInBounds_toArray, List.set_cons_zero, List.set_cons_succ, i64_w, i32_w]
    rfl
  refine pure_ (i := 6) (N := some 10) (v := ?_) (a' := ?_) #[true, true, true, true, true, true, true, false, false, false, false] rfl rfl (any_of HT_.out (by kernel_rfl)) (fun _ _ _ h => h) (Or.inl ⟨by rfl, ?_⟩) ?_ ?_
  rotate_left
  · intro w'
    go_simp
    with_reducible rfl
  rotate_left
  · simp only [Act.put, List.setIfInBounds_toArray, List.set_cons_zero, List.set_cons_succ, i64_w, i32_w]
    rfl
  refine pure_ (i := 7) (N := some 17) (v := ?_) (a' := ?_) #[true, true, true, true, true, true, true, true, false, false, false] rfl rfl (any_of HT_.out (by kernel_rfl)) (fun _ _ _ h => h) (Or.inl ⟨by rfl, ?_⟩) ?_ ?_
  rotate_left
  · intro w'
    go_simp
    with_reducible rfl
  rotate_left
  · simp only [Act.put, List.setIfInBounds_toArray, List.set_cons_zero, List.set_cons_succ, i64_w, i32_w]
    rfl
  refine pure_ (i := 8) (N := some 18) (v := ?_) (a' := ?_) #[true, true, true, true, true, true, true, true, true, false, false] rfl rfl (any_of HT_.out (by kernel_rfl)) (fun _ _ _ h => h) (Or.inl ⟨by rfl, ?_⟩) ?_ ?_
  rotate_left
  · intro w'
    go_simp
    with_reducible rfl
  rotate_left
  · simp only [Act.put, List.setIfInBounds_toArray, List.set_cons_zero, List.set_cons_succ, i64_w, i32_w]
    rfl
  refine pure_ (i := 9) (N := some 5) (v := ?_) (a' := ?_) #[true, true, true, true, true, true, true, true, true, true, false] rfl rfl (any_of HT_.out (by kernel_rfl)) (fun _ _ _ h => h) (Or.inl ⟨by rfl, ?_⟩) ?_ ?_
  rotate_left
  · intro w'
    go_simp
    with_reducible rfl
  rotate_left
  · simp only [Act.put, List.setIfInBounds_toArray, List.set_cons_zero, List.set_cons_succ, i64_w, i32_w]
    rfl
  refine pure_ (i := 10) (N := some 6) (v := ?_) (a' := ?_) #[true, true, true, true, true, true, true, true, true, true, true] rfl rfl (any_of HT_.out (by kernel_rfl)) (fun _ _ _ h => h) (Or.inl ⟨by rfl, ?_⟩) ?_ ?_
  rotate_left
  · intro w'
    go_simp
    with_reducible rfl
  rotate_left
  · simp only [Act.put, List.setIfInBounds_toArray, List.set_cons_zero, List.set_cons_succ, i64_w, i32_w]
    rfl
  refine done_ (done_of HT_.out (by kernel_rfl)) ?_
  try clear hHeld
  go_wp2
  go_ret
  exact ⟨rfl, HB1.out⟩
set_option maxHeartbeats 8000000 in
set_option maxRecDepth 100000 in
theorem drop_calls (base g f : Nat) (lt : Pt → Pt → Bool) (hlt : Less f lt) (A : Option Addr) (cap b : Nat) (l : List It) (c : Int) (key : Kt) (w : World) (h : HAt w base g (.func (.func f) #[] #[]) A cap b l c) (hk : okK key) {i : Nat} (hi : idxL l key = some i) (hl : l.length ≤ 140737488355328) :
    Calls Try.prog 34 #[.pointer (some ⟨g, 0, none⟩), .agg #[.int .u8 key.1, .int .u8 key.2.1, .int .u8 key.2.2.1, .int .u8 key.2.2.2.1, .int .u8 key.2.2.2.2.1, .int .u8 key.2.2.2.2.2.1, .int .u8 key.2.2.2.2.2.2.1, .int .u8 key.2.2.2.2.2.2.2]] w fun e w' => e = .returned (.bool true) ∧ HAt w' base g (.func (.func f) #[] #[]) A cap b (dropL lt l i) c ∧ Chg (hfp g A b) w w' := by
  obtain ⟨hil, hkey⟩ := idx_some hi
  obtain ⟨gl, rfl⟩ := h.some (by omega)
  obtain ⟨n, hn⟩ : ∃ n, l.length = n + 1 := ⟨l.length - 1, by omega⟩
  have H := Aside0.mk h
  have HLT := Aside0.mk hlt
  have HK := Aside0.mk hk
  have HL := Aside0.mk hl
  have HIX := Aside0.mk hi
  have HI := Aside0.mk hil
  have HKEY := Aside0.mk hkey
  have HN := Aside0.mk hn
  have hln : (l.length : Int) - 1 = (n : Int) := by omega
  have hnb : (n : Int) ≤ 140737488355328 := by omega
  clear h hlt hk hl hi hil hkey hn
  go_enter Try.func34, Try.ntmps34
  go_upto_region 1 with (fail)
  have HB0 : Aside0 (Below w.heap.size w w) := ⟨Below.refl _ _⟩
  have HXgk : Aside0 ((w.alloc (.cells #[.int .u8 key.1, .int .u8 key.2.1, .int .u8 key.2.2.1, .int .u8 key.2.2.2.1, .int .u8 key.2.2.2.2.1, .int .u8 key.2.2.2.2.2.1, .int .u8 key.2.2.2.2.2.2.1, .int .u8 key.2.2.2.2.2.2.2] 33)).heap[w.heap.size]? = some (.cells #[.int .u8 key.1, .int .u8 key.2.1, .int .u8 key.2.2.1, .int .u8 key.2.2.2.1, .int .u8 key.2.2.2.2.1, .int .u8 key.2.2.2.2.2.1, .int .u8 key.2.2.2.2.2.2.1, .int .u8 key.2.2.2.2.2.2.2] 33 (0, 0))) := ⟨blk_new _ _⟩
  have HB1 := Aside0.mk (below_alloc HB0.out (.cells #[.int .u8 key.1, .int .u8 key.2.1, .int .u8 key.2.2.1, .int .u8 key.2.2.2.1, .int .u8 key.2.2.2.2.1, .int .u8 key.2.2.2.2.2.1, .int .u8 key.2.2.2.2.2.2.1, .int .u8 key.2.2.2.2.2.2.2] 33))
  clear HB0
  have HQ := Aside0.mk (H.out.below HB1.out)
  have HBB := HB1
  clear HB1
  generalize (w.alloc (.cells #[.int .u8 key.1, .int .u8 key.2.1, .int .u8 key.2.2.1, .int .u8 key.2.2.2.1, .int .u8 key.2.2.2.2.1, .int .u8 key.2.2.2.2.2.1, .int .u8 key.2.2.2.2.2.2.1, .int .u8 key.2.2.2.2.2.2.2] 33)) = wB at HXgk HQ HBB ⊢
  go_upto_region 3 with (fail)
  have HQ1 : Aside0 (HAt wB.drew base g (.func (.func f) #[] #[]) (some ⟨gl, 0, none⟩) cap b l c) := ⟨HQ.out.below (below_drew1 (Below.refl _ _))⟩
  have HB1 : Aside0 (Below w.heap.size w wB.drew) := ⟨below_drew HBB.out⟩
  have HXgk1 : Aside0 (wB.drew.heap[w.heap.size]? = _) := ⟨HXgk.out⟩
  clear HQ HBB HXgk
  refine start_ (n := 11) (S := fun w' => w'.cell? ⟨w.heap.size, 0, none⟩ = some (.int .u8 key.1) ∧ w'.cell? ⟨w.heap.size, 1, none⟩ = some (.int .u8 key.2.1) ∧ w'.cell? ⟨w.heap.size, 2, none⟩ = some (.int .u8 key.2.2.1) ∧ w'.cell? ⟨w.heap.size, 3, none⟩ = some (.int .u8 key.2.2.2.1) ∧ w'.cell? ⟨w.heap.size, 4, none⟩ = some (.int .u8 key.2.2.2.2.1) ∧ w'.cell? ⟨w.heap.size, 5, none⟩ = some (.int .u8 key.2.2.2.2.2.1) ∧ w'.cell? ⟨w.heap.size, 6, none⟩ = some (.int .u8 key.2.2.2.2.2.2.1) ∧ w'.cell? ⟨w.heap.size, 7, none⟩ = some (.int .u8 key.2.2.2.2.2.2.2) ∧ w'.cell? ⟨g, 2, none⟩ = some (.map (some b))) (ds := []) #[false, false, false, false, false, false, false, false, false, false, false] (by kernel_rfl) rfl rfl ⟨(blk_cell HXgk1.out 0).trans rfl, (blk_cell HXgk1.out 1).trans rfl, (blk_cell HXgk1.out 2).trans rfl, (blk_cell HXgk1.out 3).trans rfl, (blk_cell HXgk1.out 4).trans rfl, (blk_cell HXgk1.out 5).trans rfl, (blk_cell HXgk1.out 6).trans rfl, (blk_cell HXgk1.out 7).trans rfl, (blk_cell HQ1.out.blk 2).trans rfl⟩ (fun hHeld => ?_)
  refine with_tabW drop.tab3 drop.bits3 (fun HT_ HW_ => ?_)
  generalize wB.drew = w1 at HQ1 HB1 HXgk1 hHeld ⊢
  have hm := HQ1.out.map.look keyLaw Try.underlying110 (zero_int w1) HK.out
  unfold encK at hm
  rw [HIX.out] at hm
  simp only [Option.getD_some, Option.isSome_some] at hm
  refine pure_ (i := 0) (N := some 11) (v := ?_) (a' := ?_) #[true, false, false, false, false, false, false, false, false, false, false] rfl rfl (any_of HT_.out (by kernel_rfl)) (fun _ _ _ h => h) (Or.inl ⟨by rfl, ?_⟩) ?_ ?_
  rotate_left
  · intro w'
    go_simp
    with_reducible rfl
  rotate_left
  · simp only [Act.put, List.setIfInBounds_toArray, List.set_cons_zero, List.set_cons_succ, i64_w, i32_w]
    rfl
  refine pure_ (i := 1) (N := some 12) (v := ?_) (a' := ?_) #[true, true, false, false, false, false, false, false, false, false, false] rfl rfl (any_of HT_.out (by kernel_rfl)) (fun _ _ _ h => h) (Or.inl ⟨by rfl, ?_⟩) ?_ ?_
  rotate_left
  · intro w'
    go_simp
    with_reducible rfl
  rotate_left
  · simp only [Act.put, List.setIfInBounds_toArray, List.set_cons_zero, List.set_cons_succ, i64_w, i32_w]
    rfl
  refine pure_ (i := 2) (N := some 13) (v := ?_) (a' := ?_) #[true, true, true, false, false, false, false, false, false, false, false] rfl rfl (any_of HT_.out (by kernel_rfl)) (fun _ _ _ h => h) (Or.inl ⟨by rfl, ?_⟩) ?_ ?_
  rotate_left
  · intro w'
    go_simp
    with_reducible rfl
  rotate_left
  · simp only [Act.put, List.setIfInBounds_toArray, List.set_cons_zero, List.set_cons_succ, i64_w, i32_w]
    rfl
  refine take_ (i := 3) (N := some 14) (v := ?_) (a' := ?_) #[true, true, true, true, false, false, false, false, false, false, false] rfl rfl (take_ofW HT_.out HW_.out (by kernel_rfl)) (fun _ _ _ h => h) (Or.inl ⟨by rfl, ?_⟩) hHeld ?_ ?_
  rotate_left
  · rintro w' ⟨s0, s1, s2, s3, s4, s5, s6, s7, s8⟩
    go_simp
    with_reducible rfl
  rotate_left
  · simp only [Act.put, List.setIfInBounds_toArray, List.set_cons_zero, List.set_cons_succ, i64_w, i32_w]
    rfl
  refine take_ (i := 4) (N := some 15) (v := ?_) (a' := ?_) #[true, true, true, true, true, false, false, false, false, false, false] rfl rfl (take_ofW HT_.out HW_.out (by kernel_rfl)) (fun _ _ _ h => h) (Or.inl ⟨by rfl, ?_⟩) hHeld ?_ ?_
  rotate_left
  · rintro w' ⟨s0, s1, s2, s3, s4, s5, s6, s7, s8⟩
    go_simp
    with_reducible rfl
  rotate_left
  · simp only [Act.put, List.setIfInBounds_toArray, List.set_cons_zero, List.set_cons_succ, i64_w, i32_w]
    rfl
  refine one_ (i := 5) (N := some 16) #[true, true, true, true, true, true, false, false, false, false, false] rfl rfl (one_of HT_.out (by kernel_rfl)) (by decide) (fun K hK => ?_)
  refine value_ (v := .tuple #[.int .i64 (i : Nat), .bool true]) (w1 := w1) (by rfl) rfl ?_ ?_
  · first | (go_simp; done) | (go_simp; rfl)
  clear hm
  refine hK.out _ _ ⟨(blk_cell HXgk1.out 0).trans rfl, (blk_cell HXgk1.out 1).trans rfl, (blk_cell HXgk1.out 2).trans rfl, (blk_cell HXgk1.out 3).trans rfl, (blk_cell HXgk1.out 4).trans rfl, (blk_cell HXgk1.out 5).trans rfl, (blk_cell HXgk1.out 6).trans rfl, (blk_cell HXgk1.out 7).trans rfl, (blk_cell HQ1.out.blk 2).trans rfl⟩ (fun hHeld => ?_)
  clear hK K
  refine norm_ (a' := ?_) ?_ ?_
  rotate_left
  · show Act.put _ (some 16) _ = _
    simp only [Act.put, List.setIfInBounds_toArray, List.set_cons_zero, List.set_cons_succ, i64_w, i32_w]
    rfl
  refine pure_ (i := 6) (N := some 10) (v := ?_) (a' := ?_) #[true, true, true, true, true, true, true, false, false, false, false] rfl rfl (any_of HT_.out (by kernel_rfl)) (fun _ _ _ h => h) (Or.inl ⟨by rfl, ?_⟩) ?_ ?_
  rotate_left
  · intro w'
    go_simp
    with_reducible rfl
  rotate_left
  · simp only [Act.put, List.setIfInBounds_toArray, List.set_cons_zero, List.set_cons_succ, i64_w, i32_w]
    rfl
  refine pure_ (i := 7) (N := some 17) (v := ?_) (a' := ?_) #[true, true, true, true, true, true, true, true, false, false, false] rfl rfl (any_of HT_.out (by kernel_rfl)) (fun _ _ _ h => h) (Or.inl ⟨by rfl, ?_⟩) ?_ ?_
  rotate_left
  · intro w'
    go_simp
    with_reducible rfl
  rotate_left
  · simp only [Act.put, List.setIfInBounds_toArray, List.set_cons_zero, List.set_cons_succ, i64_w, i32_w]
    rfl
  refine pure_ (i := 8) (N := some 18) (v := ?_) (a' := ?_) #[true, true, true, true, true, true, true, true, true, false, false] rfl rfl (any_of HT_.out (by kernel_rfl)) (fun _ _ _ h => h) (Or.inl ⟨by rfl, ?_⟩) ?_ ?_
  rotate_left
  · intro w'
    go_simp
    with_reducible rfl
  rotate_left
  · simp only [Act.put, List.setIfInBounds_toArray, List.set_cons_zero, List.set_cons_succ, i64_w, i32_w]
    rfl
  refine pure_ (i := 9) (N := some 5) (v := ?_) (a' := ?_) #[true, true, true, true, true, true, true, true, true, true, false] rfl rfl (any_of HT_.out (by kernel_rfl)) (fun _ _ _ h => h) (Or.inl ⟨by rfl, ?_⟩) ?_ ?_
  rotate_left
  · intro w'
    go_simp
    with_reducible rfl
  rotate_left
  · simp only [Act.put, List.setIfInBounds_toArray, List.set_cons_zero, List.set_cons_succ, i64_w, i32_w]
    rfl
  refine pure_ (i := 10) (N := some 6) (v := ?_) (a' := ?_) #[true, true, true, true, true, true, true, true, true, true, true] rfl rfl (any_of HT_.out (by kernel_rfl)) (fun _ _ _ h => h) (Or.inl ⟨by rfl, ?_⟩) ?_ ?_
  rotate_left
  · intro w'
    go_simp
    with_reducible rfl
  rotate_left
  · simp only [Act.put, List.setIfInBounds_toArray, List.set_cons_zero, List.set_cons_succ, i64_w, i32_w]
    rfl
  refine done_ (done_of HT_.out (by kernel_rfl)) ?_
  try clear hHeld
  have HFL : Aside0 (∀ k, hfp g (some ⟨gl, 0, none⟩) b k → k < w.heap.size) := ⟨H.out.fp_lt⟩
  have hc1 : w1.cell? ⟨g, 1, none⟩ = some (.slice (some ⟨gl, 0, none⟩) l.length cap) := (blk_cell HQ1.out.blk 1).trans rfl
  go_wp2_with fail
  refine (swap_calls base g _ _ cap b l c i n w1 HQ1.out HI.out (by have := HN.out; omega)).mono ?_
  rintro e w2 ⟨rfl, hs, hc⟩
  have HQs := Aside0.mk hs
  have HC1 := Aside0.mk ((Chg.of_below HB1.out).trans hc)
  have HXgk2 := Aside0.mk (hc.heap HXgk1.out (fun e => by have := HFL.out _ e; omega))
  have hcp : (n : Int) ≤ (cap : Int) := by
    obtain ⟨_, hh, _⟩ := Kd.R_reads' hs.row
    rw [swapL_len] at hh
    have := HN.out
    omega
  clear hs hc hc1 HXgk1 HQ1 HB1
  have HQ1 := HQs
  clear HQs
  generalize w2 = w1 at HQ1 HC1 HXgk2 ⊢
  have HSL : Aside0 ((swapL l i n).length = n + 1) := ⟨by rw [swapL_len]; exact HN.out⟩
  have hc1 : w1.cell? ⟨g, 1, none⟩ = some (.slice (some ⟨gl, 0, none⟩) (n + 1) cap) := by rw [← HSL.out]; exact (blk_cell HQ1.out.blk 1).trans rfl
  have hf1 := blk_frozen HQ1.out.blk 1
  go_upto_region 9 with (fail)
  have HTL : Aside0 (((swapL l i n).take n).length = n) := ⟨by rw [List.length_take, HSL.out]; omega⟩
  have HG2 := Aside0.mk (blk_put HQ1.out.blk 1 (.slice (some ⟨gl, 0, none⟩) n cap) rfl)
  have HR2 : Aside0 (kIt.R 115 (w1.setCell ⟨g, 1, none⟩ (.slice (some ⟨gl, 0, none⟩) n cap)) base (fun _ => True) (.slice (some ⟨gl, 0, none⟩) n cap) ((swapL l i n).take n)) := ⟨Kd.R_set (Kd.R_take HQ1.out.row (by rw [HSL.out]; omega)) HQ1.out.blk (by decide) 1 _⟩
  have HM2 : Aside0 (MapAt encK okK (w1.setCell ⟨g, 1, none⟩ (.slice (some ⟨gl, 0, none⟩) n cap)) b (idxL (swapL l i n))) := ⟨HQ1.out.map.move (Below.heap_setCell w1 _ _ _ (fun e => HQ1.out.map.ne HQ1.out.blk e.symm))⟩
  have HC2 : Aside0 (Chg (hfp g (some ⟨gl, 0, none⟩) b) w (w1.setCell ⟨g, 1, none⟩ (.slice (some ⟨gl, 0, none⟩) n cap))) := ⟨HC1.out.setCell (Or.inl (Or.inl rfl)) _⟩
  have HXgk3 : Aside0 ((w1.setCell ⟨g, 1, none⟩ (.slice (some ⟨gl, 0, none⟩) n cap)).heap[w.heap.size]? = _) := ⟨(Below.heap_setCell w1 _ _ _ (fun e => by have e' : w.heap.size = g := e; have := HFL.out g (Or.inl rfl); omega)).trans HXgk2.out⟩
  clear hc1 hf1 hcp hln HXgk2
  generalize (w1.setCell ⟨g, 1, none⟩ (.slice (some ⟨gl, 0, none⟩) n cap)) = w2' at HG2 HR2 HM2 HC2 HXgk3 ⊢
  have HG2' : Aside0 (w2'.drew.heap[g]? = _) := ⟨HG2.out⟩
  have HR2' := Aside0.mk (Kd.R_drew HR2.out)
  have HM2' : Aside0 (MapAt encK okK w2'.drew b (idxL (swapL l i n))) := ⟨HM2.out⟩
  have HC2' : Aside0 (Chg (hfp g (some ⟨gl, 0, none⟩) b) w w2'.drew) := ⟨HC2.out.trans (Chg.of_below (below_drew1 (Below.refl _ _)))⟩
  have HXgk4 : Aside0 (w2'.drew.heap[w.heap.size]? = _) := ⟨HXgk3.out⟩
  clear HG2 HR2 HM2 HC2 HXgk3
  have HG2 := HG2'
  have HR2 := HR2'
  have HM2 := HM2'
  have HC2 := HC2'
  clear HG2' HR2' HM2' HC2'
  refine start_ (n := 6) (S := fun w' => w'.cell? ⟨w.heap.size, 0, none⟩ = some (.int .u8 key.1) ∧ w'.cell? ⟨w.heap.size, 1, none⟩ = some (.int .u8 key.2.1) ∧ w'.cell? ⟨w.heap.size, 2, none⟩ = some (.int .u8 key.2.2.1) ∧ w'.cell? ⟨w.heap.size, 3, none⟩ = some (.int .u8 key.2.2.2.1) ∧ w'.cell? ⟨w.heap.size, 4, none⟩ = some (.int .u8 key.2.2.2.2.1) ∧ w'.cell? ⟨w.heap.size, 5, none⟩ = some (.int .u8 key.2.2.2.2.2.1) ∧ w'.cell? ⟨w.heap.size, 6, none⟩ = some (.int .u8 key.2.2.2.2.2.2.1) ∧ w'.cell? ⟨w.heap.size, 7, none⟩ = some (.int .u8 key.2.2.2.2.2.2.2) ∧ w'.cell? ⟨g, 2, none⟩ = some (.map (some b))) (ds := [5]) #[false, false, false, false, false, false] (by kernel_rfl) rfl rfl ⟨(blk_cell HXgk4.out 0).trans rfl, (blk_cell HXgk4.out 1).trans rfl, (blk_cell HXgk4.out 2).trans rfl, (blk_cell HXgk4.out 3).trans rfl, (blk_cell HXgk4.out 4).trans rfl, (blk_cell HXgk4.out 5).trans rfl, (blk_cell HXgk4.out 6).trans rfl, (blk_cell HXgk4.out 7).trans rfl, (blk_cell HG2.out 2).trans rfl⟩ (fun hHeld => ?_)
  refine with_tabW drop.tab9 drop.bits9 (fun HT_ HW_ => ?_)
  generalize w2'.drew = w2 at HG2 HR2 HM2 HC2 HXgk4 hHeld ⊢
  have HQ2 : Aside0 (∀ wz, MapAt encK okK wz b (rem (idxL (swapL l i n)) key) → w2.grownBy wz (some b) → HAt wz base g (.func (.func f) #[] #[]) (some ⟨gl, 0, none⟩) cap b ((swapL l i n).take n) c ∧ Chg (hfp g (some ⟨gl, 0, none⟩) b) w wz) := ⟨fun wz hm hg => by
    have hne : some g ≠ some b := fun e => by cases e; exact HM2.out.ne HG2.out rfl
    have hr3 : kIt.R 115 wz base (fun _ => True) (.slice (some ⟨gl, 0, none⟩) n cap) ((swapL l i n).take n) := Kd.R_mono (Kd.R_grown (Kd.R_bound HR2.out) hg (fun k hk e => by
      obtain ⟨_, _, _, q, _, cs, hcs⟩ := hk
      cases e
      exact HM2.out.ne hcs rfl)) (fun _ _ => True.intro)
    have hb3 := blk_grown HG2.out hg hne
    refine ⟨⟨by rw [HTL.out]; exact hb3, by rw [HTL.out]; exact hr3, hm.congr (fun k _ => ?_), H.out.ge, keys_take HQ1.out.keys n, fun y hy => HQ1.out.okk y (List.mem_of_mem_take hy)⟩, HC2.out.trans (Chg.keep (Chg.of_grown hg) (fun k hk _ => by cases hk; exact Or.inr (Or.inl rfl)))⟩
    have e := idx_take HQ1.out.keys HSL.out k
    rw [at_swap_j HI.out (by have := HN.out; omega), HKEY.out] at e
    exact e.symm⟩
  refine pure_ (i := 0) (N := some 40) (v := ?_) (a' := ?_) #[true, false, false, false, false, false] rfl rfl (any_of HT_.out (by kernel_rfl)) (fun _ _ _ h => h) (Or.inl ⟨by rfl, ?_⟩) ?_ ?_
  rotate_left
  · intro w'
    go_simp
    with_reducible rfl
  rotate_left
  · simp only [Act.put, List.setIfInBounds_toArray, List.set_cons_zero, List.set_cons_succ, i64_w, i32_w]
    rfl
  refine pure_ (i := 1) (N := some 41) (v := ?_) (a' := ?_) #[true, true, false, false, false, false] rfl rfl (any_of HT_.out (by kernel_rfl)) (fun _ _ _ h => h) (Or.inl ⟨by rfl, ?_⟩) ?_ ?_
  rotate_left
  · intro w'
    go_simp
    with_reducible rfl
  rotate_left
  · simp only [Act.put, List.setIfInBounds_toArray, List.set_cons_zero, List.set_cons_succ, i64_w, i32_w]
    rfl
  refine pure_ (i := 2) (N := some 42) (v := ?_) (a' := ?_) #[true, true, true, false, false, false] rfl rfl (any_of HT_.out (by kernel_rfl)) (fun _ _ _ h => h) (Or.inl ⟨by rfl, ?_⟩) ?_ ?_
  rotate_left
  · intro w'
    go_simp
    with_reducible rfl
  rotate_left
  · simp only [Act.put, List.setIfInBounds_toArray, List.set_cons_zero, List.set_cons_succ, i64_w, i32_w]
    rfl
  refine take_ (i := 3) (N := some 43) (v := ?_) (a' := ?_) #[true, true, true, true, false, false] rfl rfl (take_ofW HT_.out HW_.out (by kernel_rfl)) (fun _ _ _ h => h) (Or.inl ⟨by rfl, ?_⟩) hHeld ?_ ?_
  rotate_left
  · rintro w' ⟨s0, s1, s2, s3, s4, s5, s6, s7, s8⟩
    go_simp
    with_reducible rfl
  rotate_left
  · simp only [Act.put, List.setIfInBounds_toArray, List.set_cons_zero, List.set_cons_succ, i64_w, i32_w]
    rfl
  refine take_ (i := 4) (N := some 44) (v := ?_) (a' := ?_) #[true, true, true, true, true, false] rfl rfl (take_ofW HT_.out HW_.out (by kernel_rfl)) (fun _ _ _ h => h) (Or.inl ⟨by rfl, ?_⟩) hHeld ?_ ?_
  rotate_left
  · rintro w' ⟨s0, s1, s2, s3, s4, s5, s6, s7, s8⟩
    go_simp
    with_reducible rfl
  rotate_left
  · simp only [Act.put, List.setIfInBounds_toArray, List.set_cons_zero, List.set_cons_succ, i64_w, i32_w]
    rfl
  refine last_ (i := 5) (N := none) #[true, true, true, true, true, true] rfl rfl (one_of HT_.out (by kernel_rfl)) (by decide) (fun K hK => ?_)
  obtain ⟨w3, hdel, hm, hg⟩ := HM2.out.del keyLaw Try.underlying110 HK.out 33 0
  unfold encK at hdel
  refine value_ (w1 := w3) (v := .tuple #[]) (by rfl) rfl ?_ ?_
  · first | (go_simp; done) | (go_simp; rfl)
  have hq3 := HQ2.out w3 hm hg
  have HQ3 := Aside0.mk hq3.1
  have HC3 := Aside0.mk hq3.2
  clear hm hg hq3 hdel HQ2 HG2 HR2 HM2 HC2 HXgk4
  refine hK.out _ _ ?_
  clear hK K
  refine done_ (done_of HT_.out (by kernel_rfl)) ?_
  try clear hHeld
  have e0 : dropL lt l i = if i < n then fixL lt ((swapL l i n).take n) i else (swapL l i n).take n := by
    have : l.length - 1 = n := by have := HN.out; omega
    unfold dropL
    rw [this]
  have HE0 := Aside0.mk e0
  clear e0
  by_cases hin : i < n
  · have hin' : (i : Int) < (n : Int) := by omega
    have HIN := Aside0.mk hin
    clear hin
    go_wp2_with fail
    refine (up_calls base g f lt HLT.out _ _ b ((swapL l i n).take n) _ i w3 HQ3.out (by rw [HTL.out]; exact HIN.out) (by rw [HTL.out]; have := HN.out; have := HL.out; omega)).mono ?_
    rintro e wu ⟨rfl, hu, hcu⟩
    have HU := Aside0.mk hu
    have HCU := Aside0.mk (HC3.out.trans hcu)
    clear hu hcu
    go_wp2_with fail
    refine (down_calls base g f lt HLT.out _ _ b (upL lt i ((swapL l i n).take n) i).1 _ (upL lt i ((swapL l i n).take n) i).2 wu HU.out (by rw [upL_len]; exact Nat.lt_of_le_of_lt (upL_le lt _ _ _) (by rw [HTL.out]; exact HIN.out)) (by rw [upL_len]; exact (by rw [HTL.out]; have := HN.out; have := HL.out; omega))).mono ?_
    rintro e wd ⟨rfl, hd, hcd⟩
    have HD := Aside0.mk hd
    have HCD := Aside0.mk (HCU.out.trans hcd)
    clear hd hcd
    go_wp2
    go_ret
    rw [HE0.out, if_pos HIN.out]
    have e1 : fixL lt ((swapL l i n).take n) i = downL lt (upL lt i ((swapL l i n).take n) i).1.length (upL lt i ((swapL l i n).take n) i).1 (upL lt i ((swapL l i n).take n) i).2 := by
      rw [upL_len]
      rfl
    rw [e1]
    exact ⟨rfl, HD.out, HCD.out⟩
  · have hin' : ¬ (i : Int) < (n : Int) := by omega
    have HIN := Aside0.mk hin
    clear hin
    go_wp2
    go_ret
    rw [HE0.out, if_neg HIN.out]
    exact ⟨rfl, HQ3.out, HC3.out⟩
set_option maxHeartbeats 8000000 in
set_option maxRecDepth 100000 in
theorem pop_calls (base g f : Nat) (lt : Pt → Pt → Bool) (hlt : Less f lt) (A : Option Addr) (cap b : Nat) (l : List It) (c : Int) (w : World) (h : HAt w base g (.func (.func f) #[] #[]) A cap b l c) (h0 : 0 < l.length) (hl : l.length ≤ 140737488355328) :
    Calls Try.prog 32 #[.pointer (some ⟨g, 0, none⟩)] w fun e w' => e = .returned (.tuple #[.agg #[.int .u8 (at_ l 0).1.1, .int .u8 (at_ l 0).1.2.1, .int .u8 (at_ l 0).1.2.2.1, .int .u8 (at_ l 0).1.2.2.2.1, .int .u8 (at_ l 0).1.2.2.2.2.1, .int .u8 (at_ l 0).1.2.2.2.2.2.1, .int .u8 (at_ l 0).1.2.2.2.2.2.2.1, .int .u8 (at_ l 0).1.2.2.2.2.2.2.2], .int .i64 (at_ l 0).2.1, .bool true]) ∧ HAt w' base g (.func (.func f) #[] #[]) A cap b (dropL lt l 0) c ∧ Chg (hfp g A b) w w' := by
  have H := Aside0.mk h
  have HLT := Aside0.mk hlt
  have HL := Aside0.mk hl
  have HZ := Aside0.mk h0
  clear h hlt hl h0
  go_enter Try.func32, Try.ntmps32
  go_wp2_with fail
  have HB0 : Aside0 (Below w.heap.size w w) := ⟨Below.refl _ _⟩
  have HXgk : Aside0 ((w.alloc (.cells #[.int .u8 0, .int .u8 0, .int .u8 0, .int .u8 0, .int .u8 0, .int .u8 0, .int .u8 0, .int .u8 0] 33)).heap[w.heap.size]? = some (.cells #[.int .u8 0, .int .u8 0, .int .u8 0, .int .u8 0, .int .u8 0, .int .u8 0, .int .u8 0, .int .u8 0] 33 (0, 0))) := ⟨blk_new _ _⟩
  have HB1 := Aside0.mk (below_alloc HB0.out (.cells #[.int .u8 0, .int .u8 0, .int .u8 0, .int .u8 0, .int .u8 0, .int .u8 0, .int .u8 0, .int .u8 0] 33))
  clear HB0
  have HQ := Aside0.mk (H.out.below HB1.out)
  have HBB := HB1
  clear HB1
  generalize (w.alloc (.cells #[.int .u8 0, .int .u8 0, .int .u8 0, .int .u8 0, .int .u8 0, .int .u8 0, .int .u8 0, .int .u8 0] 33)) = wB at HXgk HQ HBB ⊢
  refine (first_calls base g _ A cap b l c wB HQ.out HZ.out).mono ?_
  rintro e w1 ⟨rfl, hb⟩
  have HQ1 := Aside0.mk (HQ.out.below hb)
  have HB1 := Aside0.mk (below_step HBB.out hb)
  have HXgk1 := Aside0.mk ((hb.block _ (blk_lt HXgk.out)).trans HXgk.out)
  clear hb HQ HBB HXgk
  have HFL : Aside0 (∀ k, hfp g A b k → k < w.heap.size) := ⟨H.out.fp_lt⟩
  go_wp2_with ((with_reducible refine gate_store (t := 33) (p := 2) (v := .tmp 8) rfl ?_); refine wpList_store_row rfl 33 (.tmp 2) (.tmp 8) rfl w.heap.size #[.int .u8 (at_ l 0).1.1, .int .u8 (at_ l 0).1.2.1, .int .u8 (at_ l 0).1.2.2.1, .int .u8 (at_ l 0).1.2.2.2.1, .int .u8 (at_ l 0).1.2.2.2.2.1, .int .u8 (at_ l 0).1.2.2.2.2.2.1, .int .u8 (at_ l 0).1.2.2.2.2.2.2.1, .int .u8 (at_ l 0).1.2.2.2.2.2.2.2] rfl rfl _ _ HXgk1.out infoK rfl (by simp [Value.oneCell']) ?_; have hs := chg_row (cs := #[.int .u8 (at_ l 0).1.1, .int .u8 (at_ l 0).1.2.1, .int .u8 (at_ l 0).1.2.2.1, .int .u8 (at_ l 0).1.2.2.2.1, .int .u8 (at_ l 0).1.2.2.2.2.1, .int .u8 (at_ l 0).1.2.2.2.2.2.1, .int .u8 (at_ l 0).1.2.2.2.2.2.2.1, .int .u8 (at_ l 0).1.2.2.2.2.2.2.2]) HXgk1.out; have HXgk2 := Aside0.mk hs.1; have HQ2 := Aside0.mk (HQ1.out.below0 (fun k hk => hs.2.block k (HQ1.out.fp_lt k hk) (fun e => by have e' : k = w.heap.size := e; have := HFL.out k hk; omega))); have HB2 := Aside0.mk (HB1.out.trans (hs.2.below HB1.out.size (fun k hk => by have e : k = w.heap.size := hk; omega))); clear HQ1 HB1; clear hs; generalize w1.setRow w.heap.size #[.int .u8 (at_ l 0).1.1, .int .u8 (at_ l 0).1.2.1, .int .u8 (at_ l 0).1.2.2.1, .int .u8 (at_ l 0).1.2.2.2.1, .int .u8 (at_ l 0).1.2.2.2.2.1, .int .u8 (at_ l 0).1.2.2.2.2.2.1, .int .u8 (at_ l 0).1.2.2.2.2.2.2.1, .int .u8 (at_ l 0).1.2.2.2.2.2.2.2] = w2 at HXgk2 HQ2 HB2 ⊢; have hcs0_w2 : w2.cell? ⟨w.heap.size, 0, none⟩ = some (.int .u8 (at_ l 0).1.1) := (blk_cell HXgk2.out 0).trans rfl; have hcs1_w2 : w2.cell? ⟨w.heap.size, 1, none⟩ = some (.int .u8 (at_ l 0).1.2.1) := (blk_cell HXgk2.out 1).trans rfl; have hcs2_w2 : w2.cell? ⟨w.heap.size, 2, none⟩ = some (.int .u8 (at_ l 0).1.2.2.1) := (blk_cell HXgk2.out 2).trans rfl; have hcs3_w2 : w2.cell? ⟨w.heap.size, 3, none⟩ = some (.int .u8 (at_ l 0).1.2.2.2.1) := (blk_cell HXgk2.out 3).trans rfl; have hcs4_w2 : w2.cell? ⟨w.heap.size, 4, none⟩ = some (.int .u8 (at_ l 0).1.2.2.2.2.1) := (blk_cell HXgk2.out 4).trans rfl; have hcs5_w2 : w2.cell? ⟨w.heap.size, 5, none⟩ = some (.int .u8 (at_ l 0).1.2.2.2.2.2.1) := (blk_cell HXgk2.out 5).trans rfl; have hcs6_w2 : w2.cell? ⟨w.heap.size, 6, none⟩ = some (.int .u8 (at_ l 0).1.2.2.2.2.2.2.1) := (blk_cell HXgk2.out 6).trans rfl; have hcs7_w2 : w2.cell? ⟨w.heap.size, 7, none⟩ = some (.int .u8 (at_ l 0).1.2.2.2.2.2.2.2) := (blk_cell HXgk2.out 7).trans rfl)
  refine (drop_calls base g f lt HLT.out A cap b l c _ w2 HQ2.out (H.out.okk _ (at_mem HZ.out)) (idx_at H.out.keys HZ.out) HL.out).mono ?_
  rintro e w3 ⟨rfl, hd, hc⟩
  have HD3 := Aside0.mk hd
  have HC3 := Aside0.mk ((Chg.of_below (F := hfp g A b) (HB2.out)).trans hc)
  have HXgk3 := Aside0.mk (hc.heap HXgk2.out (fun e => by have := HFL.out _ e; omega))
  clear hd hc HQ2 HB2 HXgk2 hcs0_w2 hcs1_w2 hcs2_w2 hcs3_w2 hcs4_w2 hcs5_w2 hcs6_w2 hcs7_w2
  have hcc0 : w3.cell? ⟨w.heap.size, 0, none⟩ = some (.int .u8 (at_ l 0).1.1) := (blk_cell HXgk3.out 0).trans rfl
  have hcc1 : w3.cell? ⟨w.heap.size, 1, none⟩ = some (.int .u8 (at_ l 0).1.2.1) := (blk_cell HXgk3.out 1).trans rfl
  have hcc2 : w3.cell? ⟨w.heap.size, 2, none⟩ = some (.int .u8 (at_ l 0).1.2.2.1) := (blk_cell HXgk3.out 2).trans rfl
  have hcc3 : w3.cell? ⟨w.heap.size, 3, none⟩ = some (.int .u8 (at_ l 0).1.2.2.2.1) := (blk_cell HXgk3.out 3).trans rfl
  have hcc4 : w3.cell? ⟨w.heap.size, 4, none⟩ = some (.int .u8 (at_ l 0).1.2.2.2.2.1) := (blk_cell HXgk3.out 4).trans rfl
  have hcc5 : w3.cell? ⟨w.heap.size, 5, none⟩ = some (.int .u8 (at_ l 0).1.2.2.2.2.2.1) := (blk_cell HXgk3.out 5).trans rfl
  have hcc6 : w3.cell? ⟨w.heap.size, 6, none⟩ = some (.int .u8 (at_ l 0).1.2.2.2.2.2.2.1) := (blk_cell HXgk3.out 6).trans rfl
  have hcc7 : w3.cell? ⟨w.heap.size, 7, none⟩ = some (.int .u8 (at_ l 0).1.2.2.2.2.2.2.2) := (blk_cell HXgk3.out 7).trans rfl
  go_wp2_with ((with_reducible refine gate_store (t := 33) (p := 2) (v := .tmp 15) rfl ?_); refine wpList_store_row rfl 33 (.tmp 2) (.tmp 15) rfl w.heap.size #[.int .u8 (at_ l 0).1.1, .int .u8 (at_ l 0).1.2.1, .int .u8 (at_ l 0).1.2.2.1, .int .u8 (at_ l 0).1.2.2.2.1, .int .u8 (at_ l 0).1.2.2.2.2.1, .int .u8 (at_ l 0).1.2.2.2.2.2.1, .int .u8 (at_ l 0).1.2.2.2.2.2.2.1, .int .u8 (at_ l 0).1.2.2.2.2.2.2.2] rfl rfl _ _ HXgk3.out infoK rfl (by simp [Value.oneCell']) ?_; have hs := chg_row (cs := #[.int .u8 (at_ l 0).1.1, .int .u8 (at_ l 0).1.2.1, .int .u8 (at_ l 0).1.2.2.1, .int .u8 (at_ l 0).1.2.2.2.1, .int .u8 (at_ l 0).1.2.2.2.2.1, .int .u8 (at_ l 0).1.2.2.2.2.2.1, .int .u8 (at_ l 0).1.2.2.2.2.2.2.1, .int .u8 (at_ l 0).1.2.2.2.2.2.2.2]) HXgk3.out; have HXgk4 := Aside0.mk hs.1; have HD4 := Aside0.mk (HD3.out.below0 (fun k hk => hs.2.block k (HD3.out.fp_lt k hk) (fun e => by have e' : k = w.heap.size := e; have := HFL.out k hk; omega))); have HC4 := Aside0.mk (HC3.out.then hs.2 (fun k hk => Or.inr (by have e : k = w.heap.size := hk; omega))); clear HD3 HC3; clear hs; generalize w3.setRow w.heap.size #[.int .u8 (at_ l 0).1.1, .int .u8 (at_ l 0).1.2.1, .int .u8 (at_ l 0).1.2.2.1, .int .u8 (at_ l 0).1.2.2.2.1, .int .u8 (at_ l 0).1.2.2.2.2.1, .int .u8 (at_ l 0).1.2.2.2.2.2.1, .int .u8 (at_ l 0).1.2.2.2.2.2.2.1, .int .u8 (at_ l 0).1.2.2.2.2.2.2.2] = w4 at HXgk4 HD4 HC4 ⊢; have hcs0_w4 : w4.cell? ⟨w.heap.size, 0, none⟩ = some (.int .u8 (at_ l 0).1.1) := (blk_cell HXgk4.out 0).trans rfl; have hcs1_w4 : w4.cell? ⟨w.heap.size, 1, none⟩ = some (.int .u8 (at_ l 0).1.2.1) := (blk_cell HXgk4.out 1).trans rfl; have hcs2_w4 : w4.cell? ⟨w.heap.size, 2, none⟩ = some (.int .u8 (at_ l 0).1.2.2.1) := (blk_cell HXgk4.out 2).trans rfl; have hcs3_w4 : w4.cell? ⟨w.heap.size, 3, none⟩ = some (.int .u8 (at_ l 0).1.2.2.2.1) := (blk_cell HXgk4.out 3).trans rfl; have hcs4_w4 : w4.cell? ⟨w.heap.size, 4, none⟩ = some (.int .u8 (at_ l 0).1.2.2.2.2.1) := (blk_cell HXgk4.out 4).trans rfl; have hcs5_w4 : w4.cell? ⟨w.heap.size, 5, none⟩ = some (.int .u8 (at_ l 0).1.2.2.2.2.2.1) := (blk_cell HXgk4.out 5).trans rfl; have hcs6_w4 : w4.cell? ⟨w.heap.size, 6, none⟩ = some (.int .u8 (at_ l 0).1.2.2.2.2.2.2.1) := (blk_cell HXgk4.out 6).trans rfl; have hcs7_w4 : w4.cell? ⟨w.heap.size, 7, none⟩ = some (.int .u8 (at_ l 0).1.2.2.2.2.2.2.2) := (blk_cell HXgk4.out 7).trans rfl)
  refine bodyPost_ret (results_list (rs := [.cell 2 33, .tmp 3, .tmp 4]) rfl (by simp) (.cell w.heap.size 33 _ (0, 0) _ rfl HXgk4.out Try.underlying33 rfl infoK (.tmp (.tmp .nil)))) rfl ?_
  exact ⟨rfl, HD4.out, HC4.out⟩
set_option maxHeartbeats 8000000 in
set_option maxRecDepth 100000 in
theorem pop_none (base g : Nat) (fv : Value) (A : Option Addr) (cap b : Nat) (c : Int) (w : World) (h : HAt w base g fv A cap b [] c) :
    Calls Try.prog 32 #[.pointer (some ⟨g, 0, none⟩)] w fun e w' => e = .returned (.tuple #[.agg #[.int .u8 0, .int .u8 0, .int .u8 0, .int .u8 0, .int .u8 0, .int .u8 0, .int .u8 0, .int .u8 0], .int .i64 0, .bool false]) ∧ Below w.heap.size w w' := by
  have H := Aside0.mk h
  clear h
  go_enter Try.func32, Try.ntmps32
  go_wp2_with fail
  have HB0 : Aside0 (Below w.heap.size w w) := ⟨Below.refl _ _⟩
  have HXgk : Aside0 ((w.alloc (.cells #[.int .u8 0, .int .u8 0, .int .u8 0, .int .u8 0, .int .u8 0, .int .u8 0, .int .u8 0, .int .u8 0] 33)).heap[w.heap.size]? = some (.cells #[.int .u8 0, .int .u8 0, .int .u8 0, .int .u8 0, .int .u8 0, .int .u8 0, .int .u8 0, .int .u8 0] 33 (0, 0))) := ⟨blk_new _ _⟩
  have HB1 := Aside0.mk (below_alloc HB0.out (.cells #[.int .u8 0, .int .u8 0, .int .u8 0, .int .u8 0, .int .u8 0, .int .u8 0, .int .u8 0, .int .u8 0] 33))
  clear HB0
  have HQ := Aside0.mk (H.out.below HB1.out)
  have HBB := HB1
  clear HB1
  generalize (w.alloc (.cells #[.int .u8 0, .int .u8 0, .int .u8 0, .int .u8 0, .int .u8 0, .int .u8 0, .int .u8 0, .int .u8 0] 33)) = wB at HXgk HQ HBB ⊢
  refine (first_none base g _ A cap b c wB HQ.out).mono ?_
  rintro e w1 ⟨rfl, hb⟩
  have HQ1 := Aside0.mk (HQ.out.below hb)
  have HB1 := Aside0.mk (below_step HBB.out hb)
  have HXgk1 := Aside0.mk ((hb.block _ (blk_lt HXgk.out)).trans HXgk.out)
  clear hb HQ HBB HXgk
  have HFL : Aside0 (∀ k, hfp g A b k → k < w.heap.size) := ⟨H.out.fp_lt⟩
  go_upto_region 4 with ((with_reducible refine gate_store (t := 33) (p := 2) (v := .tmp 8) rfl ?_); refine wpList_store_row rfl 33 (.tmp 2) (.tmp 8) rfl w.heap.size #[.int .u8 0, .int .u8 0, .int .u8 0, .int .u8 0, .int .u8 0, .int .u8 0, .int .u8 0, .int .u8 0] rfl rfl _ _ HXgk1.out infoK rfl (by simp [Value.oneCell']) ?_; have hs := chg_row (cs := #[.int .u8 0, .int .u8 0, .int .u8 0, .int .u8 0, .int .u8 0, .int .u8 0, .int .u8 0, .int .u8 0]) HXgk1.out; have HXgk2 := Aside0.mk hs.1; have HQ2 := Aside0.mk (HQ1.out.below0 (fun k hk => hs.2.block k (HQ1.out.fp_lt k hk) (fun e => by have e' : k = w.heap.size := e; have := HFL.out k hk; omega))); have HB2 := Aside0.mk (HB1.out.trans (hs.2.below HB1.out.size (fun k hk => by have e : k = w.heap.size := hk; omega))); clear HQ1 HB1; clear hs; generalize w1.setRow w.heap.size #[.int .u8 0, .int .u8 0, .int .u8 0, .int .u8 0, .int .u8 0, .int .u8 0, .int .u8 0, .int .u8 0] = w2 at HXgk2 HQ2 HB2 ⊢; have hcs0_w2 : w2.cell? ⟨w.heap.size, 0, none⟩ = some (.int .u8 0) := (blk_cell HXgk2.out 0).trans rfl; have hcs1_w2 : w2.cell? ⟨w.heap.size, 1, none⟩ = some (.int .u8 0) := (blk_cell HXgk2.out 1).trans rfl; have hcs2_w2 : w2.cell? ⟨w.heap.size, 2, none⟩ = some (.int .u8 0) := (blk_cell HXgk2.out 2).trans rfl; have hcs3_w2 : w2.cell? ⟨w.heap.size, 3, none⟩ = some (.int .u8 0) := (blk_cell HXgk2.out 3).trans rfl; have hcs4_w2 : w2.cell? ⟨w.heap.size, 4, none⟩ = some (.int .u8 0) := (blk_cell HXgk2.out 4).trans rfl; have hcs5_w2 : w2.cell? ⟨w.heap.size, 5, none⟩ = some (.int .u8 0) := (blk_cell HXgk2.out 5).trans rfl; have hcs6_w2 : w2.cell? ⟨w.heap.size, 6, none⟩ = some (.int .u8 0) := (blk_cell HXgk2.out 6).trans rfl; have hcs7_w2 : w2.cell? ⟨w.heap.size, 7, none⟩ = some (.int .u8 0) := (blk_cell HXgk2.out 7).trans rfl)
  have HD3 := HQ2
  have HB3 := HB2
  have HXgk3 := HXgk2
  clear HQ2 HB2 HXgk2
  generalize w2 = w3 at HD3 HB3 HXgk3 hcs0_w2 hcs1_w2 hcs2_w2 hcs3_w2 hcs4_w2 hcs5_w2 hcs6_w2 hcs7_w2 ⊢
  go_wp2_with ((with_reducible refine gate_store (t := 33) (p := 2) (v := .tmp 15) rfl ?_); refine wpList_store_row rfl 33 (.tmp 2) (.tmp 15) rfl w.heap.size #[.int .u8 0, .int .u8 0, .int .u8 0, .int .u8 0, .int .u8 0, .int .u8 0, .int .u8 0, .int .u8 0] rfl rfl _ _ HXgk3.out infoK rfl (by simp [Value.oneCell']) ?_; have hs := chg_row (cs := #[.int .u8 0, .int .u8 0, .int .u8 0, .int .u8 0, .int .u8 0, .int .u8 0, .int .u8 0, .int .u8 0]) HXgk3.out; have HXgk4 := Aside0.mk hs.1; have HB4 := Aside0.mk (HB3.out.trans (hs.2.below HB3.out.size (fun k hk => by have e : k = w.heap.size := hk; omega))); clear HD3 HB3; clear hs; generalize w3.setRow w.heap.size #[.int .u8 0, .int .u8 0, .int .u8 0, .int .u8 0, .int .u8 0, .int .u8 0, .int .u8 0, .int .u8 0] = w4 at HXgk4 HB4 ⊢; have hcs0_w4 : w4.cell? ⟨w.heap.size, 0, none⟩ = some (.int .u8 0) := (blk_cell HXgk4.out 0).trans rfl; have hcs1_w4 : w4.cell? ⟨w.heap.size, 1, none⟩ = some (.int .u8 0) := (blk_cell HXgk4.out 1).trans rfl; have hcs2_w4 : w4.cell? ⟨w.heap.size, 2, none⟩ = some (.int .u8 0) := (blk_cell HXgk4.out 2).trans rfl; have hcs3_w4 : w4.cell? ⟨w.heap.size, 3, none⟩ = some (.int .u8 0) := (blk_cell HXgk4.out 3).trans rfl; have hcs4_w4 : w4.cell? ⟨w.heap.size, 4, none⟩ = some (.int .u8 0) := (blk_cell HXgk4.out 4).trans rfl; have hcs5_w4 : w4.cell? ⟨w.heap.size, 5, none⟩ = some (.int .u8 0) := (blk_cell HXgk4.out 5).trans rfl; have hcs6_w4 : w4.cell? ⟨w.heap.size, 6, none⟩ = some (.int .u8 0) := (blk_cell HXgk4.out 6).trans rfl; have hcs7_w4 : w4.cell? ⟨w.heap.size, 7, none⟩ = some (.int .u8 0) := (blk_cell HXgk4.out 7).trans rfl)
  refine bodyPost_ret (results_list (rs := [.cell 2 33, .tmp 3, .tmp 4]) rfl (by simp) (.cell w.heap.size 33 _ (0, 0) _ rfl HXgk4.out Try.underlying33 rfl infoK (.tmp (.tmp .nil)))) rfl ?_
  exact ⟨rfl, HB4.out⟩
end Go.Proofs.Ytibipbfmhbkpiaa.HeapDI
