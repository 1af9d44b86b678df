/- One order of the script: Put. Conditions: those that stand in each theorem. Written by wip/gen/heapdo.py. -/
import Derived.Test.YtibipbfmhbkpiaaHeapXW
namespace Go.Proofs.Ytibipbfmhbkpiaa.HeapDI
open Go.RowKit Go.Proofs.YtibipbfmhbkpiaaW.PrintWords Go.Proofs.YtibipbfmhbkpiaaW.PrintLast Go.Proofs.YtibipbfmhbkpiaaW.PrintMore Go.Proofs.Ytibipbfmhbkpiaa.HeapW Go.Proofs.Ytibipbfmhbkpiaa.HeapP Go.Proofs.Ytibipbfmhbkpiaa.MapAt Go.Proofs.Ytibipbfmhbkpiaa.Q
set_option linter.unusedVariables false
set_option linter.unusedSimpArgs false
def does.T4 : Bool × List (List Nat × List Nat) := (true, [([], []), ([], []), ([0], [0]), ([2], [2]), ([3, 1], [1, 3]), ([4], [4]), ([], []), ([6], [6]), ([], []), ([8], [8]), ([5, 7, 9], [5, 7, 9]), ([], []), ([], []), ([11], [11]), ([13], [13]), ([14, 12], [12, 14]), ([15], [15]), ([], []), ([17], [17]), ([], []), ([19], [19]), ([16, 18, 20, 10], [16, 18, 20]), ([10, 21], [10, 21]), ([22, 21, 0, 1, 2, 3, 4, 5, 6, 7, 8, 9, 10, 11, 12, 13, 14, 15, 16, 17, 18, 19, 20, 21, 22], [22])])
def does.B4 : List Nat := [0, 0, 1, 5, 15, 31, 0, 64, 0, 256, 1023, 0, 0, 2048, 10240, 30720, 63488, 0, 131072, 0, 524288, 2097151, 4194303, 8388607]
theorem does.tab4 : rtab .any (opsOf Try.f9 4) = does.T4 := by kernel_rfl
theorem does.bits4 : waitsOk does.T4.2 does.B4 = true := by kernel_rfl
set_option maxHeartbeats 8000000 in
set_option maxRecDepth 100000 in
theorem does_put0 {w : World} {base gw gH gR : Nat} {ord : Int} {M : List It} {c : Nat} {F : Nat → Prop} {p1 p3 : Value} (on rank : Int) (key : Kt) (h : Slot w base gH gR ord M c (M.map pairOf) F) (hW : w.heap[gw]? = some (.cells #[(.pointer (some ⟨gH, 0, none⟩)), p1, (.pointer (some ⟨gR, 0, none⟩)), p3] 29 (0, 0))) (ho : ¬ F gw) (hk : okK key) (hc : c < 4000000000000) (hM : M.length ≤ c) (hb : base ≤ w.heap.size) (hon : bits BinOp.and IntKind.i64 on 1 = 0) :
    Calls Try.prog 9 #[.pointer (some ⟨gw, 0, none⟩), .agg #[.int .i64 1, .int .i64 on, .int .i64 rank, .int .u8 key.1, .int .u8 key.2.1, .int .u8 key.2.2.1, .int .u8 key.2.2.2.1, .int .u8 key.2.2.2.2.1, .int .u8 key.2.2.2.2.2.1, .int .u8 key.2.2.2.2.2.2.1, .int .u8 key.2.2.2.2.2.2.2]] w fun e w' => e = .returned (.bool true) ∧ ∃ F', Slot w' base gH gR ord (putM ord M c key rank) (putC ord c) ((putM ord M c key rank).map pairOf) F' ∧ Chg F w w' ∧ ∀ i, F' i → F i ∨ w.heap.size ≤ i := by
  have H := Aside0.mk h
  have HW := Aside0.mk hW
  have HO := Aside0.mk ho
  have HK := Aside0.mk hk
  have HC := Aside0.mk hc
  have HM := Aside0.mk hM
  have HML : Aside0 ((M.map pairOf).length ≤ 4000000000000) := ⟨by rw [List.length_map]; omega⟩
  have HBS := Aside0.mk hb
  have HGW : Aside0 (gw < w.heap.size) := ⟨blk_lt hW⟩
  clear h hW ho hk hc hM hb
  go_enter Try.func9, Try.ntmps9
  go_upto_region 1 with (fail)
  have HOX : Aside0 ((w.alloc (.cells #[.int .i64 1, .int .i64 on, .int .i64 rank, .int .u8 key.1, .int .u8 key.2.1, .int .u8 key.2.2.1, .int .u8 key.2.2.2.1, .int .u8 key.2.2.2.2.1, .int .u8 key.2.2.2.2.2.1, .int .u8 key.2.2.2.2.2.2.1, .int .u8 key.2.2.2.2.2.2.2] 35)).heap[w.heap.size]? = some (.cells #[.int .i64 1, .int .i64 on, .int .i64 rank, .int .u8 key.1, .int .u8 key.2.1, .int .u8 key.2.2.1, .int .u8 key.2.2.2.1, .int .u8 key.2.2.2.2.1, .int .u8 key.2.2.2.2.2.1, .int .u8 key.2.2.2.2.2.2.1, .int .u8 key.2.2.2.2.2.2.2] 35)) := ⟨blk_new _ _⟩
  have HBB : Aside0 (Below w.heap.size w (w.alloc (.cells #[.int .i64 1, .int .i64 on, .int .i64 rank, .int .u8 key.1, .int .u8 key.2.1, .int .u8 key.2.2.1, .int .u8 key.2.2.2.1, .int .u8 key.2.2.2.2.1, .int .u8 key.2.2.2.2.2.1, .int .u8 key.2.2.2.2.2.2.1, .int .u8 key.2.2.2.2.2.2.2] 35))) := ⟨below_alloc (Below.refl _ _) _⟩
  have HS := Aside0.mk (H.out.below HBB.out)
  have HWB := Aside0.mk ((HBB.out.block _ HGW.out).trans HW.out)
  generalize w.alloc (.cells #[.int .i64 1, .int .i64 on, .int .i64 rank, .int .u8 key.1, .int .u8 key.2.1, .int .u8 key.2.2.1, .int .u8 key.2.2.2.1, .int .u8 key.2.2.2.2.1, .int .u8 key.2.2.2.2.2.1, .int .u8 key.2.2.2.2.2.2.1, .int .u8 key.2.2.2.2.2.2.2] 35) = wB at HOX HBB HS HWB ⊢
  have hcO0 : wB.cell? ⟨w.heap.size, 0, none⟩ = some (.int .i64 1) := (blk_cell HOX.out 0).trans rfl
  have hcO1 : wB.cell? ⟨w.heap.size, 1, none⟩ = some (.int .i64 on) := (blk_cell HOX.out 1).trans rfl
  go_wp2_with fail
  refine start_ (n := 24) (S := fun w' => w'.cell? ⟨gw, 0, none⟩ = some ((.pointer (some ⟨gH, 0, none⟩))) ∧ w'.cell? ⟨gw, 2, none⟩ = some ((.pointer (some ⟨gR, 0, none⟩))) ∧ w'.cell? ⟨w.heap.size, 2, none⟩ = some (.int .i64 rank) ∧ w'.cell? ⟨w.heap.size, 3, none⟩ = some (.int .u8 key.1) ∧ w'.cell? ⟨w.heap.size, 4, none⟩ = some (.int .u8 key.2.1) ∧ w'.cell? ⟨w.heap.size, 5, none⟩ = some (.int .u8 key.2.2.1) ∧ w'.cell? ⟨w.heap.size, 6, none⟩ = some (.int .u8 key.2.2.2.1) ∧ w'.cell? ⟨w.heap.size, 7, none⟩ = some (.int .u8 key.2.2.2.2.1) ∧ w'.cell? ⟨w.heap.size, 8, none⟩ = some (.int .u8 key.2.2.2.2.2.1) ∧ w'.cell? ⟨w.heap.size, 9, none⟩ = some (.int .u8 key.2.2.2.2.2.2.1) ∧ w'.cell? ⟨w.heap.size, 10, none⟩ = some (.int .u8 key.2.2.2.2.2.2.2)) (ds := []) #[false, false, false, false, false, false, false, false, false, false, false, false, false, false, false, false, false, false, false, false, false, false, false, false] (by kernel_rfl) rfl rfl ⟨(blk_cell HWB.out 0).trans rfl, (blk_cell HWB.out 2).trans rfl, (blk_cell HOX.out 2).trans rfl, (blk_cell HOX.out 3).trans rfl, (blk_cell HOX.out 4).trans rfl, (blk_cell HOX.out 5).trans rfl, (blk_cell HOX.out 6).trans rfl, (blk_cell HOX.out 7).trans rfl, (blk_cell HOX.out 8).trans rfl, (blk_cell HOX.out 9).trans rfl, (blk_cell HOX.out 10).trans rfl⟩ (fun hHeld => ?_)
  refine with_tabW does.tab4 does.bits4 (fun HT_ HW_ => ?_)
  have HS4 := Aside0.mk (HS.out.below (below_drew (Below.refl _ _)))
  have HWB4 : Aside0 (wB.drew.heap[gw]? = _) := ⟨HWB.out⟩
  have HOX4 : Aside0 (wB.drew.heap[w.heap.size]? = _) := ⟨HOX.out⟩
  have HB4 : Aside0 (Below w.heap.size w wB.drew) := ⟨below_drew HBB.out⟩
  generalize wB.drew = w4 at HS4 HWB4 HOX4 HB4 hHeld ⊢
  have HO4 := HO
  have HX4 : Aside0 (¬ F w.heap.size) := ⟨fun q => by have := (H.out.ge _ q).2; omega⟩
  have HZ4 : Aside0 (base ≤ w4.heap.size) := ⟨Nat.le_trans HBS.out HB4.out.size⟩
  refine pure_ (i := 0) (N := some 18) (v := ?_) (a' := ?_) #[true, false, false, false, false, false, false, false, false, false, false, false, false, false, false, false, false, false, false, false, false, false, false, false] rfl rfl (any_of HT_.out (by kernel_rfl)) (fun _ _ _ h => h) (Or.inl ⟨by rfl, ?_⟩) ?_ ?_
  rotate_left
  · intro w'
    go_simp
    with_reducible rfl
  rotate_left
  · simp only [Act.put, List.setIfInBounds_toArray, List.set_cons_zero, List.set_cons_succ, i64_w, i32_w]
    rfl
  refine pure_ (i := 1) (N := some 19) (v := ?_) (a' := ?_) #[true, true, false, false, false, false, false, false, false, false, false, false, false, false, false, false, false, false, false, false, false, false, false, false] rfl rfl (any_of HT_.out (by kernel_rfl)) (fun _ _ _ h => h) (Or.inl ⟨by rfl, ?_⟩) ?_ ?_
  rotate_left
  · intro w'
    go_simp
    with_reducible rfl
  rotate_left
  · simp only [Act.put, List.setIfInBounds_toArray, List.set_cons_zero, List.set_cons_succ, i64_w, i32_w]
    rfl
  refine pure_ (i := 2) (N := some 20) (v := ?_) (a' := ?_) #[true, true, true, false, false, false, false, false, false, false, false, false, false, false, false, false, false, false, false, false, false, false, false, false] rfl rfl (any_of HT_.out (by kernel_rfl)) (fun _ _ _ h => h) (Or.inl ⟨by rfl, ?_⟩) ?_ ?_
  rotate_left
  · intro w'
    go_simp
    with_reducible rfl
  rotate_left
  · simp only [Act.put, List.setIfInBounds_toArray, List.set_cons_zero, List.set_cons_succ, i64_w, i32_w]
    rfl
  refine pure_ (i := 3) (N := some 21) (v := ?_) (a' := ?_) #[true, true, true, true, false, false, false, false, false, false, false, false, false, false, false, false, false, false, false, false, false, false, false, false] rfl rfl (any_of HT_.out (by kernel_rfl)) (fun _ _ _ h => h) (Or.inl ⟨by rfl, ?_⟩) ?_ ?_
  rotate_left
  · intro w'
    go_simp
    with_reducible rfl
  rotate_left
  · simp only [Act.put, List.setIfInBounds_toArray, List.set_cons_zero, List.set_cons_succ, i64_w, i32_w]
    rfl
  refine pure_ (i := 4) (N := some 22) (v := ?_) (a' := ?_) #[true, true, true, true, true, false, false, false, false, false, false, false, false, false, false, false, false, false, false, false, false, false, false, false] rfl rfl (any_of HT_.out (by kernel_rfl)) (fun _ _ _ h => h) (Or.inl ⟨by rfl, ?_⟩) ?_ ?_
  rotate_left
  · intro w'
    go_simp
    with_reducible rfl
  rotate_left
  · simp only [Act.put, List.setIfInBounds_toArray, List.set_cons_zero, List.set_cons_succ, i64_w, i32_w]
    rfl
  refine pure_ (i := 6) (N := some 24) (v := ?_) (a' := ?_) #[true, true, true, true, true, false, true, false, false, false, false, false, false, false, false, false, false, false, false, false, false, false, false, false] rfl rfl (any_of HT_.out (by kernel_rfl)) (fun _ _ _ h => h) (Or.inl ⟨by rfl, ?_⟩) ?_ ?_
  rotate_left
  · intro w'
    go_simp
    with_reducible rfl
  rotate_left
  · simp only [Act.put, List.setIfInBounds_toArray, List.set_cons_zero, List.set_cons_succ, i64_w, i32_w]
    rfl
  refine pure_ (i := 8) (N := some 26) (v := ?_) (a' := ?_) #[true, true, true, true, true, false, true, false, true, false, false, false, false, false, false, false, false, false, false, false, false, false, false, false] rfl rfl (any_of HT_.out (by kernel_rfl)) (fun _ _ _ h => h) (Or.inl ⟨by rfl, ?_⟩) ?_ ?_
  rotate_left
  · intro w'
    go_simp
    with_reducible rfl
  rotate_left
  · simp only [Act.put, List.setIfInBounds_toArray, List.set_cons_zero, List.set_cons_succ, i64_w, i32_w]
    rfl
  refine pure_ (i := 11) (N := some 29) (v := ?_) (a' := ?_) #[true, true, true, true, true, false, true, false, true, false, false, true, false, false, false, false, false, false, false, false, false, false, false, false] rfl rfl (any_of HT_.out (by kernel_rfl)) (fun _ _ _ h => h) (Or.inl ⟨by rfl, ?_⟩) ?_ ?_
  rotate_left
  · intro w'
    go_simp
    with_reducible rfl
  rotate_left
  · simp only [Act.put, List.setIfInBounds_toArray, List.set_cons_zero, List.set_cons_succ, i64_w, i32_w]
    rfl
  refine pure_ (i := 12) (N := some 30) (v := ?_) (a' := ?_) #[true, true, true, true, true, false, true, false, true, false, false, true, true, false, false, false, false, false, false, false, false, false, false, false] rfl rfl (any_of HT_.out (by kernel_rfl)) (fun _ _ _ h => h) (Or.inl ⟨by rfl, ?_⟩) ?_ ?_
  rotate_left
  · intro w'
    go_simp
    with_reducible rfl
  rotate_left
  · simp only [Act.put, List.setIfInBounds_toArray, List.set_cons_zero, List.set_cons_succ, i64_w, i32_w]
    rfl
  refine pure_ (i := 13) (N := some 31) (v := ?_) (a' := ?_) #[true, true, true, true, true, false, true, false, true, false, false, true, true, true, false, false, false, false, false, false, false, false, false, false] rfl rfl (any_of HT_.out (by kernel_rfl)) (fun _ _ _ h => h) (Or.inl ⟨by rfl, ?_⟩) ?_ ?_
  rotate_left
  · intro w'
    go_simp
    with_reducible rfl
  rotate_left
  · simp only [Act.put, List.setIfInBounds_toArray, List.set_cons_zero, List.set_cons_succ, i64_w, i32_w]
    rfl
  refine pure_ (i := 14) (N := some 32) (v := ?_) (a' := ?_) #[true, true, true, true, true, false, true, false, true, false, false, true, true, true, true, false, false, false, false, false, false, false, false, false] rfl rfl (any_of HT_.out (by kernel_rfl)) (fun _ _ _ h => h) (Or.inl ⟨by rfl, ?_⟩) ?_ ?_
  rotate_left
  · intro w'
    go_simp
    with_reducible rfl
  rotate_left
  · simp only [Act.put, List.setIfInBounds_toArray, List.set_cons_zero, List.set_cons_succ, i64_w, i32_w]
    rfl
  refine pure_ (i := 15) (N := some 33) (v := ?_) (a' := ?_) #[true, true, true, true, true, false, true, false, true, false, false, true, true, true, true, true, false, false, false, false, false, false, false, false] rfl rfl (any_of HT_.out (by kernel_rfl)) (fun _ _ _ h => h) (Or.inl ⟨by rfl, ?_⟩) ?_ ?_
  rotate_left
  · intro w'
    go_simp
    with_reducible rfl
  rotate_left
  · simp only [Act.put, List.setIfInBounds_toArray, List.set_cons_zero, List.set_cons_succ, i64_w, i32_w]
    rfl
  refine pure_ (i := 17) (N := some 35) (v := ?_) (a' := ?_) #[true, true, true, true, true, false, true, false, true, false, false, true, true, true, true, true, false, true, false, false, false, false, false, false] rfl rfl (any_of HT_.out (by kernel_rfl)) (fun _ _ _ h => h) (Or.inl ⟨by rfl, ?_⟩) ?_ ?_
  rotate_left
  · intro w'
    go_simp
    with_reducible rfl
  rotate_left
  · simp only [Act.put, List.setIfInBounds_toArray, List.set_cons_zero, List.set_cons_succ, i64_w, i32_w]
    rfl
  refine pure_ (i := 19) (N := some 37) (v := ?_) (a' := ?_) #[true, true, true, true, true, false, true, false, true, false, false, true, true, true, true, true, false, true, false, true, false, false, false, false] rfl rfl (any_of HT_.out (by kernel_rfl)) (fun _ _ _ h => h) (Or.inl ⟨by rfl, ?_⟩) ?_ ?_
  rotate_left
  · intro w'
    go_simp
    with_reducible rfl
  rotate_left
  · simp only [Act.put, List.setIfInBounds_toArray, List.set_cons_zero, List.set_cons_succ, i64_w, i32_w]
    rfl
  refine take_ (i := 5) (N := some 23) (v := ?_) (a' := ?_) #[true, true, true, true, true, true, true, false, true, false, false, true, true, true, true, true, false, true, false, true, false, false, false, false] rfl rfl (take_ofW HT_.out HW_.out (by kernel_rfl)) (fun _ _ _ h => h) (Or.inl ⟨by rfl, ?_⟩) hHeld ?_ ?_
  rotate_left
  · rintro w' ⟨s0, s1, s2, s3, s4, s5, s6, s7, s8, s9, s10⟩
    go_simp
    with_reducible rfl
  rotate_left
  · simp only [Act.put, List.setIfInBounds_toArray, List.set_cons_zero, List.set_cons_succ, i64_w, i32_w]
    rfl
  refine take_ (i := 7) (N := some 25) (v := ?_) (a' := ?_) #[true, true, true, true, true, true, true, true, true, false, false, true, true, true, true, true, false, true, false, true, false, false, false, false] rfl rfl (take_ofW HT_.out HW_.out (by kernel_rfl)) (fun _ _ _ h => h) (Or.inl ⟨by rfl, ?_⟩) hHeld ?_ ?_
  rotate_left
  · rintro w' ⟨s0, s1, s2, s3, s4, s5, s6, s7, s8, s9, s10⟩
    go_simp
    with_reducible rfl
  rotate_left
  · simp only [Act.put, List.setIfInBounds_toArray, List.set_cons_zero, List.set_cons_succ, i64_w, i32_w]
    rfl
  refine take_ (i := 9) (N := some 27) (v := ?_) (a' := ?_) #[true, true, true, true, true, true, true, true, true, true, false, true, true, true, true, true, false, true, false, true, false, false, false, false] rfl rfl (take_ofW HT_.out HW_.out (by kernel_rfl)) (fun _ _ _ h => h) (Or.inl ⟨by rfl, ?_⟩) hHeld ?_ ?_
  rotate_left
  · rintro w' ⟨s0, s1, s2, s3, s4, s5, s6, s7, s8, s9, s10⟩
    go_simp
    with_reducible rfl
  rotate_left
  · simp only [Act.put, List.setIfInBounds_toArray, List.set_cons_zero, List.set_cons_succ, i64_w, i32_w]
    rfl
  refine take_ (i := 16) (N := some 34) (v := ?_) (a' := ?_) #[true, true, true, true, true, true, true, true, true, true, false, true, true, true, true, true, true, true, false, true, false, false, false, false] rfl rfl (take_ofW HT_.out HW_.out (by kernel_rfl)) (fun _ _ _ h => h) (Or.inl ⟨by rfl, ?_⟩) hHeld ?_ ?_
  rotate_left
  · rintro w' ⟨s0, s1, s2, s3, s4, s5, s6, s7, s8, s9, s10⟩
    go_simp
    with_reducible rfl
  rotate_left
  · simp only [Act.put, List.setIfInBounds_toArray, List.set_cons_zero, List.set_cons_succ, i64_w, i32_w]
    rfl
  refine take_ (i := 18) (N := some 36) (v := ?_) (a' := ?_) #[true, true, true, true, true, true, true, true, true, true, false, true, true, true, true, true, true, true, true, true, false, false, false, false] rfl rfl (take_ofW HT_.out HW_.out (by kernel_rfl)) (fun _ _ _ h => h) (Or.inl ⟨by rfl, ?_⟩) hHeld ?_ ?_
  rotate_left
  · rintro w' ⟨s0, s1, s2, s3, s4, s5, s6, s7, s8, s9, s10⟩
    go_simp
    with_reducible rfl
  rotate_left
  · simp only [Act.put, List.setIfInBounds_toArray, List.set_cons_zero, List.set_cons_succ, i64_w, i32_w]
    rfl
  refine take_ (i := 20) (N := some 38) (v := ?_) (a' := ?_) #[true, true, true, true, true, true, true, true, true, true, false, true, true, true, true, true, true, true, true, true, true, false, false, false] rfl rfl (take_ofW HT_.out HW_.out (by kernel_rfl)) (fun _ _ _ h => h) (Or.inl ⟨by rfl, ?_⟩) hHeld ?_ ?_
  rotate_left
  · rintro w' ⟨s0, s1, s2, s3, s4, s5, s6, s7, s8, s9, s10⟩
    go_simp
    with_reducible rfl
  rotate_left
  · simp only [Act.put, List.setIfInBounds_toArray, List.set_cons_zero, List.set_cons_succ, i64_w, i32_w]
    rfl
  refine one_ (i := 10) (N := some 28) #[true, true, true, true, true, true, true, true, true, true, true, true, true, true, true, true, true, true, true, true, true, false, false, false] rfl rfl (one_of HT_.out (by kernel_rfl)) (by decide) (fun K hK => ?_)
  refine goes_ Try.func30 (by kernel_rfl) rfl #[.pointer (some ⟨gH, 0, none⟩), .agg #[.int .u8 key.1, .int .u8 key.2.1, .int .u8 key.2.2.1, .int .u8 key.2.2.2.1, .int .u8 key.2.2.2.2.1, .int .u8 key.2.2.2.2.2.1, .int .u8 key.2.2.2.2.2.2.1, .int .u8 key.2.2.2.2.2.2.2], .int .i64 rank] (by rfl) rfl rfl (by simp only [List.map_toArray, List.map_cons, List.map_nil]; rfl) ?_
  with_reducible refine (hput_slot HS4.out key rank HK.out HC.out HM.out HZ4.out).mono ?_
  rintro e w5 ⟨rfl, F5, hs, hc, hf⟩
  refine ⟨_, rfl, ?_⟩
  have HS5 := Aside0.mk hs
  have HC5 := Aside0.mk (And.intro hc hf)
  have HWB5 := Aside0.mk (hc.heap HWB4.out HO4.out)
  have HOX5 := Aside0.mk (hc.heap HOX4.out HX4.out)
  have HO5 : Aside0 (¬ F5 gw) := ⟨fun q => by rcases hf _ q with q | q; exact HO4.out q; have := blk_lt HWB4.out; omega⟩
  have HX5 : Aside0 (¬ F5 w.heap.size) := ⟨fun q => by rcases hf _ q with q | q; exact HX4.out q; have := blk_lt HOX4.out; omega⟩
  have HZ5 : Aside0 (base ≤ w5.heap.size) := ⟨Nat.le_trans HZ4.out hc.size⟩
  clear hs hc hf
  refine hK.out _ _ ⟨(blk_cell HWB5.out 0).trans rfl, (blk_cell HWB5.out 2).trans rfl, (blk_cell HOX5.out 2).trans rfl, (blk_cell HOX5.out 3).trans rfl, (blk_cell HOX5.out 4).trans rfl, (blk_cell HOX5.out 5).trans rfl, (blk_cell HOX5.out 6).trans rfl, (blk_cell HOX5.out 7).trans rfl, (blk_cell HOX5.out 8).trans rfl, (blk_cell HOX5.out 9).trans rfl, (blk_cell HOX5.out 10).trans rfl⟩ (fun hHeld => ?_)
  clear hK K
  refine norm_ (a' := ?_) ?_ ?_
  rotate_left
  · show Act.put _ (some 28) _ = _
    simp only [Act.put, List.setIfInBounds_toArray, List.set_cons_zero, List.set_cons_succ, i64_w, i32_w]
    rfl
  refine one_ (i := 21) (N := some 39) #[true, true, true, true, true, true, true, true, true, true, true, true, true, true, true, true, true, true, true, true, true, true, false, false] rfl rfl (one_of HT_.out (by kernel_rfl)) (by decide) (fun K hK => ?_)
  refine goes_ Try.func31 (by kernel_rfl) rfl #[.pointer (some ⟨gR, 0, none⟩), .agg #[.int .u8 key.1, .int .u8 key.2.1, .int .u8 key.2.2.1, .int .u8 key.2.2.2.1, .int .u8 key.2.2.2.2.1, .int .u8 key.2.2.2.2.2.1, .int .u8 key.2.2.2.2.2.2.1, .int .u8 key.2.2.2.2.2.2.2], .int .i64 rank] (by rfl) rfl rfl (by simp only [List.map_toArray, List.map_cons, List.map_nil]; rfl) ?_
  with_reducible refine (rput_slot HS5.out key rank HML.out HZ5.out).mono ?_
  rintro e w6 ⟨rfl, F6, hs, hc, hf⟩
  refine ⟨_, rfl, ?_⟩
  have HS6 := Aside0.mk hs
  have HC6 := Aside0.mk (And.intro hc hf)
  have HWB6 := Aside0.mk (hc.heap HWB5.out HO5.out)
  have HOX6 := Aside0.mk (hc.heap HOX5.out HX5.out)
  have HO6 : Aside0 (¬ F6 gw) := ⟨fun q => by rcases hf _ q with q | q; exact HO5.out q; have := blk_lt HWB5.out; omega⟩
  have HX6 : Aside0 (¬ F6 w.heap.size) := ⟨fun q => by rcases hf _ q with q | q; exact HX5.out q; have := blk_lt HOX5.out; omega⟩
  have HZ6 : Aside0 (base ≤ w6.heap.size) := ⟨Nat.le_trans HZ5.out hc.size⟩
  clear hs hc hf
  refine hK.out _ _ ⟨(blk_cell HWB6.out 0).trans rfl, (blk_cell HWB6.out 2).trans rfl, (blk_cell HOX6.out 2).trans rfl, (blk_cell HOX6.out 3).trans rfl, (blk_cell HOX6.out 4).trans rfl, (blk_cell HOX6.out 5).trans rfl, (blk_cell HOX6.out 6).trans rfl, (blk_cell HOX6.out 7).trans rfl, (blk_cell HOX6.out 8).trans rfl, (blk_cell HOX6.out 9).trans rfl, (blk_cell HOX6.out 10).trans rfl⟩ (fun hHeld => ?_)
  clear hK K
  refine norm_ (a' := ?_) ?_ ?_
  rotate_left
  · show Act.put _ (some 39) _ = _
    simp only [Act.put, List.setIfInBounds_toArray, List.set_cons_zero, List.set_cons_succ, i64_w, i32_w]
    rfl
  refine pure_ (i := 22) (N := some 40) (v := ?_) (a' := ?_) #[true, true, true, true, true, true, true, true, true, true, true, true, true, true, true, true, true, true, true, true, true, true, true, false] rfl rfl (any_of HT_.out (by kernel_rfl)) (fun _ _ _ h => h) (Or.inl ⟨by rfl, ?_⟩) ?_ ?_
  rotate_left
  · intro w'
    go_simp
    with_reducible rfl
  rotate_left
  · simp only [Act.put, List.setIfInBounds_toArray, List.set_cons_zero, List.set_cons_succ, i64_w, i32_w]
    rfl
  refine pure_ (i := 23) (N := some 4) (v := ?_) (a' := ?_) #[true, true, true, true, true, true, true, true, true, true, true, true, true, true, true, true, true, true, true, true, true, true, true, true] rfl rfl (any_of HT_.out (by kernel_rfl)) (fun _ _ _ h => h) (Or.inl ⟨by rfl, ?_⟩) ?_ ?_
  rotate_left
  · intro w'
    go_simp
    with_reducible rfl
  rotate_left
  · simp only [Act.put, List.setIfInBounds_toArray, List.set_cons_zero, List.set_cons_succ, i64_w, i32_w]
    rfl
  refine done_ (done_of HT_.out (by kernel_rfl)) ?_
  have HS7 : Aside0 (Slot w6 base gH gR ord (putM ord M c key rank) (putC ord c) ((putM ord M c key rank).map pairOf) F6) := ⟨put_map ord H.out.keysM c key rank ▸ HS6.out⟩
  have HC7 : Aside0 (Chg F w4 w6 ∧ ∀ i, F6 i → F i ∨ w4.heap.size ≤ i) := ⟨HC5.out.1.then HC6.out.1 HC5.out.2, fun i q => by rcases HC6.out.2 i q with q | q; exact HC5.out.2 i q; exact Or.inr (Nat.le_trans HC5.out.1.size q)⟩
  try clear hHeld
  go_wp2
  go_ret
  exact ⟨by first | rfl | simp, F6, HS7.out, (Chg.of_below HB4.out).trans HC7.out.1, fun i q => by rcases HC7.out.2 i q with q | q; exact Or.inl q; exact Or.inr (Nat.le_trans HB4.out.size q)⟩
set_option maxHeartbeats 8000000 in
set_option maxRecDepth 100000 in
theorem does_put1 {w : World} {base gw gH gR : Nat} {ord : Int} {M : List It} {c : Nat} {F : Nat → Prop} {p0 p2 : Value} (on rank : Int) (key : Kt) (h : Slot w base gH gR ord M c (M.map pairOf) F) (hW : w.heap[gw]? = some (.cells #[p0, (.pointer (some ⟨gH, 0, none⟩)), p2, (.pointer (some ⟨gR, 0, none⟩))] 29 (0, 0))) (ho : ¬ F gw) (hk : okK key) (hc : c < 4000000000000) (hM : M.length ≤ c) (hb : base ≤ w.heap.size) (hon : bits BinOp.and IntKind.i64 on 1 = 1) :
    Calls Try.prog 9 #[.pointer (some ⟨gw, 0, none⟩), .agg #[.int .i64 1, .int .i64 on, .int .i64 rank, .int .u8 key.1, .int .u8 key.2.1, .int .u8 key.2.2.1, .int .u8 key.2.2.2.1, .int .u8 key.2.2.2.2.1, .int .u8 key.2.2.2.2.2.1, .int .u8 key.2.2.2.2.2.2.1, .int .u8 key.2.2.2.2.2.2.2]] w fun e w' => e = .returned (.bool true) ∧ ∃ F', Slot w' base gH gR ord (putM ord M c key rank) (putC ord c) ((putM ord M c key rank).map pairOf) F' ∧ Chg F w w' ∧ ∀ i, F' i → F i ∨ w.heap.size ≤ i := by
  have H := Aside0.mk h
  have HW := Aside0.mk hW
  have HO := Aside0.mk ho
  have HK := Aside0.mk hk
  have HC := Aside0.mk hc
  have HM := Aside0.mk hM
  have HML : Aside0 ((M.map pairOf).length ≤ 4000000000000) := ⟨by rw [List.length_map]; omega⟩
  have HBS := Aside0.mk hb
  have HGW : Aside0 (gw < w.heap.size) := ⟨blk_lt hW⟩
  clear h hW ho hk hc hM hb
  go_enter Try.func9, Try.ntmps9
  go_upto_region 1 with (fail)
  have HOX : Aside0 ((w.alloc (.cells #[.int .i64 1, .int .i64 on, .int .i64 rank, .int .u8 key.1, .int .u8 key.2.1, .int .u8 key.2.2.1, .int .u8 key.2.2.2.1, .int .u8 key.2.2.2.2.1, .int .u8 key.2.2.2.2.2.1, .int .u8 key.2.2.2.2.2.2.1, .int .u8 key.2.2.2.2.2.2.2] 35)).heap[w.heap.size]? = some (.cells #[.int .i64 1, .int .i64 on, .int .i64 rank, .int .u8 key.1, .int .u8 key.2.1, .int .u8 key.2.2.1, .int .u8 key.2.2.2.1, .int .u8 key.2.2.2.2.1, .int .u8 key.2.2.2.2.2.1, .int .u8 key.2.2.2.2.2.2.1, .int .u8 key.2.2.2.2.2.2.2] 35)) := ⟨blk_new _ _⟩
  have HBB : Aside0 (Below w.heap.size w (w.alloc (.cells #[.int .i64 1, .int .i64 on, .int .i64 rank, .int .u8 key.1, .int .u8 key.2.1, .int .u8 key.2.2.1, .int .u8 key.2.2.2.1, .int .u8 key.2.2.2.2.1, .int .u8 key.2.2.2.2.2.1, .int .u8 key.2.2.2.2.2.2.1, .int .u8 key.2.2.2.2.2.2.2] 35))) := ⟨below_alloc (Below.refl _ _) _⟩
  have HS := Aside0.mk (H.out.below HBB.out)
  have HWB := Aside0.mk ((HBB.out.block _ HGW.out).trans HW.out)
  generalize w.alloc (.cells #[.int .i64 1, .int .i64 on, .int .i64 rank, .int .u8 key.1, .int .u8 key.2.1, .int .u8 key.2.2.1, .int .u8 key.2.2.2.1, .int .u8 key.2.2.2.2.1, .int .u8 key.2.2.2.2.2.1, .int .u8 key.2.2.2.2.2.2.1, .int .u8 key.2.2.2.2.2.2.2] 35) = wB at HOX HBB HS HWB ⊢
  have hcO0 : wB.cell? ⟨w.heap.size, 0, none⟩ = some (.int .i64 1) := (blk_cell HOX.out 0).trans rfl
  have hcO1 : wB.cell? ⟨w.heap.size, 1, none⟩ = some (.int .i64 on) := (blk_cell HOX.out 1).trans rfl
  go_wp2_with fail
  refine start_ (n := 24) (S := fun w' => w'.cell? ⟨gw, 1, none⟩ = some ((.pointer (some ⟨gH, 0, none⟩))) ∧ w'.cell? ⟨gw, 3, none⟩ = some ((.pointer (some ⟨gR, 0, none⟩))) ∧ w'.cell? ⟨w.heap.size, 2, none⟩ = some (.int .i64 rank) ∧ w'.cell? ⟨w.heap.size, 3, none⟩ = some (.int .u8 key.1) ∧ w'.cell? ⟨w.heap.size, 4, none⟩ = some (.int .u8 key.2.1) ∧ w'.cell? ⟨w.heap.size, 5, none⟩ = some (.int .u8 key.2.2.1) ∧ w'.cell? ⟨w.heap.size, 6, none⟩ = some (.int .u8 key.2.2.2.1) ∧ w'.cell? ⟨w.heap.size, 7, none⟩ = some (.int .u8 key.2.2.2.2.1) ∧ w'.cell? ⟨w.heap.size, 8, none⟩ = some (.int .u8 key.2.2.2.2.2.1) ∧ w'.cell? ⟨w.heap.size, 9, none⟩ = some (.int .u8 key.2.2.2.2.2.2.1) ∧ w'.cell? ⟨w.heap.size, 10, none⟩ = some (.int .u8 key.2.2.2.2.2.2.2)) (ds := []) #[false, false, false, false, false, false, false, false, false, false, false, false, false, false, false, false, false, false, false, false, false, false, false, false] (by kernel_rfl) rfl rfl ⟨(blk_cell HWB.out 1).trans rfl, (blk_cell HWB.out 3).trans rfl, (blk_cell HOX.out 2).trans rfl, (blk_cell HOX.out 3).trans rfl, (blk_cell HOX.out 4).trans rfl, (blk_cell HOX.out 5).trans rfl, (blk_cell HOX.out 6).trans rfl, (blk_cell HOX.out 7).trans rfl, (blk_cell HOX.out 8).trans rfl, (blk_cell HOX.out 9).trans rfl, (blk_cell HOX.out 10).trans rfl⟩ (fun hHeld => ?_)
  refine with_tabW does.tab4 does.bits4 (fun HT_ HW_ => ?_)
  have HS4 := Aside0.mk (HS.out.below (below_drew (Below.refl _ _)))
  have HWB4 : Aside0 (wB.drew.heap[gw]? = _) := ⟨HWB.out⟩
  have HOX4 : Aside0 (wB.drew.heap[w.heap.size]? = _) := ⟨HOX.out⟩
  have HB4 : Aside0 (Below w.heap.size w wB.drew) := ⟨below_drew HBB.out⟩
  generalize wB.drew = w4 at HS4 HWB4 HOX4 HB4 hHeld ⊢
  have HO4 := HO
  have HX4 : Aside0 (¬ F w.heap.size) := ⟨fun q => by have := (H.out.ge _ q).2; omega⟩
  have HZ4 : Aside0 (base ≤ w4.heap.size) := ⟨Nat.le_trans HBS.out HB4.out.size⟩
  refine pure_ (i := 0) (N := some 18) (v := ?_) (a' := ?_) #[true, false, false, false, false, false, false, false, false, false, false, false, false, false, false, false, false, false, false, false, false, false, false, false] rfl rfl (any_of HT_.out (by kernel_rfl)) (fun _ _ _ h => h) (Or.inl ⟨by rfl, ?_⟩) ?_ ?_
  rotate_left
  · intro w'
    go_simp
    with_reducible rfl
  rotate_left
  · simp only [Act.put, List.setIfInBounds_toArray, List.set_cons_zero, List.set_cons_succ, i64_w, i32_w]
    rfl
  refine pure_ (i := 1) (N := some 19) (v := ?_) (a' := ?_) #[true, true, false, false, false, false, false, false, false, false, false, false, false, false, false, false, false, false, false, false, false, false, false, false] rfl rfl (any_of HT_.out (by kernel_rfl)) (fun _ _ _ h => h) (Or.inl ⟨by rfl, ?_⟩) ?_ ?_
  rotate_left
  · intro w'
    go_simp
    with_reducible rfl
  rotate_left
  · simp only [Act.put, List.setIfInBounds_toArray, List.set_cons_zero, List.set_cons_succ, i64_w, i32_w]
    rfl
  refine pure_ (i := 2) (N := some 20) (v := ?_) (a' := ?_) #[true, true, true, false, false, false, false, false, false, false, false, false, false, false, false, false, false, false, false, false, false, false, false, false] rfl rfl (any_of HT_.out (by kernel_rfl)) (fun _ _ _ h => h) (Or.inl ⟨by rfl, ?_⟩) ?_ ?_
  rotate_left
  · intro w'
    go_simp
    with_reducible rfl
  rotate_left
  · simp only [Act.put, List.setIfInBounds_toArray, List.set_cons_zero, List.set_cons_succ, i64_w, i32_w]
    rfl
  refine pure_ (i := 3) (N := some 21) (v := ?_) (a' := ?_) #[true, true, true, true, false, false, false, false, false, false, false, false, false, false, false, false, false, false, false, false, false, false, false, false] rfl rfl (any_of HT_.out (by kernel_rfl)) (fun _ _ _ h => h) (Or.inl ⟨by rfl, ?_⟩) ?_ ?_
  rotate_left
  · intro w'
    go_simp
    with_reducible rfl
  rotate_left
  · simp only [Act.put, List.setIfInBounds_toArray, List.set_cons_zero, List.set_cons_succ, i64_w, i32_w]
    rfl
  refine pure_ (i := 4) (N := some 22) (v := ?_) (a' := ?_) #[true, true, true, true, true, false, false, false, false, false, false, false, false, false, false, false, false, false, false, false, false, false, false, false] rfl rfl (any_of HT_.out (by kernel_rfl)) (fun _ _ _ h => h) (Or.inl ⟨by rfl, ?_⟩) ?_ ?_
  rotate_left
  · intro w'
    go_simp
    with_reducible rfl
  rotate_left
  · simp only [Act.put, List.setIfInBounds_toArray, List.set_cons_zero, List.set_cons_succ, i64_w, i32_w]
    rfl
  refine pure_ (i := 6) (N := some 24) (v := ?_) (a' := ?_) #[true, true, true, true, true, false, true, false, false, false, false, false, false, false, false, false, false, false, false, false, false, false, false, false] rfl rfl (any_of HT_.out (by kernel_rfl)) (fun _ _ _ h => h) (Or.inl ⟨by rfl, ?_⟩) ?_ ?_
  rotate_left
  · intro w'
    go_simp
    with_reducible rfl
  rotate_left
  · simp only [Act.put, List.setIfInBounds_toArray, List.set_cons_zero, List.set_cons_succ, i64_w, i32_w]
    rfl
  refine pure_ (i := 8) (N := some 26) (v := ?_) (a' := ?_) #[true, true, true, true, true, false, true, false, true, false, false, false, false, false, false, false, false, false, false, false, false, false, false, false] rfl rfl (any_of HT_.out (by kernel_rfl)) (fun _ _ _ h => h) (Or.inl ⟨by rfl, ?_⟩) ?_ ?_
  rotate_left
  · intro w'
    go_simp
    with_reducible rfl
  rotate_left
  · simp only [Act.put, List.setIfInBounds_toArray, List.set_cons_zero, List.set_cons_succ, i64_w, i32_w]
    rfl
  refine pure_ (i := 11) (N := some 29) (v := ?_) (a' := ?_) #[true, true, true, true, true, false, true, false, true, false, false, true, false, false, false, false, false, false, false, false, false, false, false, false] rfl rfl (any_of HT_.out (by kernel_rfl)) (fun _ _ _ h => h) (Or.inl ⟨by rfl, ?_⟩) ?_ ?_
  rotate_left
  · intro w'
    go_simp
    with_reducible rfl
  rotate_left
  · simp only [Act.put, List.setIfInBounds_toArray, List.set_cons_zero, List.set_cons_succ, i64_w, i32_w]
    rfl
  refine pure_ (i := 12) (N := some 30) (v := ?_) (a' := ?_) #[true, true, true, true, true, false, true, false, true, false, false, true, true, false, false, false, false, false, false, false, false, false, false, false] rfl rfl (any_of HT_.out (by kernel_rfl)) (fun _ _ _ h => h) (Or.inl ⟨by rfl, ?_⟩) ?_ ?_
  rotate_left
  · intro w'
    go_simp
    with_reducible rfl
  rotate_left
  · simp only [Act.put, List.setIfInBounds_toArray, List.set_cons_zero, List.set_cons_succ, i64_w, i32_w]
    rfl
  refine pure_ (i := 13) (N := some 31) (v := ?_) (a' := ?_) #[true, true, true, true, true, false, true, false, true, false, false, true, true, true, false, false, false, false, false, false, false, false, false, false] rfl rfl (any_of HT_.out (by kernel_rfl)) (fun _ _ _ h => h) (Or.inl ⟨by rfl, ?_⟩) ?_ ?_
  rotate_left
  · intro w'
    go_simp
    with_reducible rfl
  rotate_left
  · simp only [Act.put, List.setIfInBounds_toArray, List.set_cons_zero, List.set_cons_succ, i64_w, i32_w]
    rfl
  refine pure_ (i := 14) (N := some 32) (v := ?_) (a' := ?_) #[true, true, true, true, true, false, true, false, true, false, false, true, true, true, true, false, false, false, false, false, false, false, false, false] rfl rfl (any_of HT_.out (by kernel_rfl)) (fun _ _ _ h => h) (Or.inl ⟨by rfl, ?_⟩) ?_ ?_
  rotate_left
  · intro w'
    go_simp
    with_reducible rfl
  rotate_left
  · simp only [Act.put, List.setIfInBounds_toArray, List.set_cons_zero, List.set_cons_succ, i64_w, i32_w]
    rfl
  refine pure_ (i := 15) (N := some 33) (v := ?_) (a' := ?_) #[true, true, true, true, true, false, true, false, true, false, false, true, true, true, true, true, false, false, false, false, false, false, false, false] rfl rfl (any_of HT_.out (by kernel_rfl)) (fun _ _ _ h => h) (Or.inl ⟨by rfl, ?_⟩) ?_ ?_
  rotate_left
  · intro w'
    go_simp
    with_reducible rfl
  rotate_left
  · simp only [Act.put, List.setIfInBounds_toArray, List.set_cons_zero, List.set_cons_succ, i64_w, i32_w]
    rfl
  refine pure_ (i := 17) (N := some 35) (v := ?_) (a' := ?_) #[true, true, true, true, true, false, true, false, true, false, false, true, true, true, true, true, false, true, false, false, false, false, false, false] rfl rfl (any_of HT_.out (by kernel_rfl)) (fun _ _ _ h => h) (Or.inl ⟨by rfl, ?_⟩) ?_ ?_
  rotate_left
  · intro w'
    go_simp
    with_reducible rfl
  rotate_left
  · simp only [Act.put, List.setIfInBounds_toArray, List.set_cons_zero, List.set_cons_succ, i64_w, i32_w]
    rfl
  refine pure_ (i := 19) (N := some 37) (v := ?_) (a' := ?_) #[true, true, true, true, true, false, true, false, true, false, false, true, true, true, true, true, false, true, false, true, false, false, false, false] rfl rfl (any_of HT_.out (by kernel_rfl)) (fun _ _ _ h => h) (Or.inl ⟨by rfl, ?_⟩) ?_ ?_
  rotate_left
  · intro w'
    go_simp
    with_reducible rfl
  rotate_left
  · simp only [Act.put, List.setIfInBounds_toArray, List.set_cons_zero, List.set_cons_succ, i64_w, i32_w]
    rfl
  refine take_ (i := 5) (N := some 23) (v := ?_) (a' := ?_) #[true, true, true, true, true, true, true, false, true, false, false, true, true, true, true, true, false, true, false, true, false, false, false, false] rfl rfl (take_ofW HT_.out HW_.out (by kernel_rfl)) (fun _ _ _ h => h) (Or.inl ⟨by rfl, ?_⟩) hHeld ?_ ?_
  rotate_left
  · rintro w' ⟨s0, s1, s2, s3, s4, s5, s6, s7, s8, s9, s10⟩
    go_simp
    with_reducible rfl
  rotate_left
  · simp only [Act.put, List.setIfInBounds_toArray, List.set_cons_zero, List.set_cons_succ, i64_w, i32_w]
    rfl
  refine take_ (i := 7) (N := some 25) (v := ?_) (a' := ?_) #[true, true, true, true, true, true, true, true, true, false, false, true, true, true, true, true, false, true, false, true, false, false, false, false] rfl rfl (take_ofW HT_.out HW_.out (by kernel_rfl)) (fun _ _ _ h => h) (Or.inl ⟨by rfl, ?_⟩) hHeld ?_ ?_
  rotate_left
  · rintro w' ⟨s0, s1, s2, s3, s4, s5, s6, s7, s8, s9, s10⟩
    go_simp
    with_reducible rfl
  rotate_left
  · simp only [Act.put, List.setIfInBounds_toArray, List.set_cons_zero, List.set_cons_succ, i64_w, i32_w]
    rfl
  refine take_ (i := 9) (N := some 27) (v := ?_) (a' := ?_) #[true, true, true, true, true, true, true, true, true, true, false, true, true, true, true, true, false, true, false, true, false, false, false, false] rfl rfl (take_ofW HT_.out HW_.out (by kernel_rfl)) (fun _ _ _ h => h) (Or.inl ⟨by rfl, ?_⟩) hHeld ?_ ?_
  rotate_left
  · rintro w' ⟨s0, s1, s2, s3, s4, s5, s6, s7, s8, s9, s10⟩
    go_simp
    with_reducible rfl
  rotate_left
  · simp only [Act.put, List.setIfInBounds_toArray, List.set_cons_zero, List.set_cons_succ, i64_w, i32_w]
    rfl
  refine take_ (i := 16) (N := some 34) (v := ?_) (a' := ?_) #[true, true, true, true, true, true, true, true, true, true, false, true, true, true, true, true, true, true, false, true, false, false, false, false] rfl rfl (take_ofW HT_.out HW_.out (by kernel_rfl)) (fun _ _ _ h => h) (Or.inl ⟨by rfl, ?_⟩) hHeld ?_ ?_
  rotate_left
  · rintro w' ⟨s0, s1, s2, s3, s4, s5, s6, s7, s8, s9, s10⟩
    go_simp
    with_reducible rfl
  rotate_left
  · simp only [Act.put, List.setIfInBounds_toArray, List.set_cons_zero, List.set_cons_succ, i64_w, i32_w]
    rfl
  refine take_ (i := 18) (N := some 36) (v := ?_) (a' := ?_) #[true, true, true, true, true, true, true, true, true, true, false, true, true, true, true, true, true, true, true, true, false, false, false, false] rfl rfl (take_ofW HT_.out HW_.out (by kernel_rfl)) (fun _ _ _ h => h) (Or.inl ⟨by rfl, ?_⟩) hHeld ?_ ?_
  rotate_left
  · rintro w' ⟨s0, s1, s2, s3, s4, s5, s6, s7, s8, s9, s10⟩
    go_simp
    with_reducible rfl
  rotate_left
  · simp only [Act.put, List.setIfInBounds_toArray, List.set_cons_zero, List.set_cons_succ, i64_w, i32_w]
    rfl
  refine take_ (i := 20) (N := some 38) (v := ?_) (a' := ?_) #[true, true, true, true, true, true, true, true, true, true, false, true, true, true, true, true, true, true, true, true, true, false, false, false] rfl rfl (take_ofW HT_.out HW_.out (by kernel_rfl)) (fun _ _ _ h => h) (Or.inl ⟨by rfl, ?_⟩) hHeld ?_ ?_
  rotate_left
  · rintro w' ⟨s0, s1, s2, s3, s4, s5, s6, s7, s8, s9, s10⟩
    go_simp
    with_reducible rfl
  rotate_left
  · simp only [Act.put, List.setIfInBounds_toArray, List.set_cons_zero, List.set_cons_succ, i64_w, i32_w]
    rfl
  refine one_ (i := 10) (N := some 28) #[true, true, true, true, true, true, true, true, true, true, true, true, true, true, true, true, true, true, true, true, true, false, false, false] rfl rfl (one_of HT_.out (by kernel_rfl)) (by decide) (fun K hK => ?_)
  refine goes_ Try.func30 (by kernel_rfl) rfl #[.pointer (some ⟨gH, 0, none⟩), .agg #[.int .u8 key.1, .int .u8 key.2.1, .int .u8 key.2.2.1, .int .u8 key.2.2.2.1, .int .u8 key.2.2.2.2.1, .int .u8 key.2.2.2.2.2.1, .int .u8 key.2.2.2.2.2.2.1, .int .u8 key.2.2.2.2.2.2.2], .int .i64 rank] (by rfl) rfl rfl (by simp only [List.map_toArray, List.map_cons, List.map_nil]; rfl) ?_
  with_reducible refine (hput_slot HS4.out key rank HK.out HC.out HM.out HZ4.out).mono ?_
  rintro e w5 ⟨rfl, F5, hs, hc, hf⟩
  refine ⟨_, rfl, ?_⟩
  have HS5 := Aside0.mk hs
  have HC5 := Aside0.mk (And.intro hc hf)
  have HWB5 := Aside0.mk (hc.heap HWB4.out HO4.out)
  have HOX5 := Aside0.mk (hc.heap HOX4.out HX4.out)
  have HO5 : Aside0 (¬ F5 gw) := ⟨fun q => by rcases hf _ q with q | q; exact HO4.out q; have := blk_lt HWB4.out; omega⟩
  have HX5 : Aside0 (¬ F5 w.heap.size) := ⟨fun q => by rcases hf _ q with q | q; exact HX4.out q; have := blk_lt HOX4.out; omega⟩
  have HZ5 : Aside0 (base ≤ w5.heap.size) := ⟨Nat.le_trans HZ4.out hc.size⟩
  clear hs hc hf
  refine hK.out _ _ ⟨(blk_cell HWB5.out 1).trans rfl, (blk_cell HWB5.out 3).trans rfl, (blk_cell HOX5.out 2).trans rfl, (blk_cell HOX5.out 3).trans rfl, (blk_cell HOX5.out 4).trans rfl, (blk_cell HOX5.out 5).trans rfl, (blk_cell HOX5.out 6).trans rfl, (blk_cell HOX5.out 7).trans rfl, (blk_cell HOX5.out 8).trans rfl, (blk_cell HOX5.out 9).trans rfl, (blk_cell HOX5.out 10).trans rfl⟩ (fun hHeld => ?_)
  clear hK K
  refine norm_ (a' := ?_) ?_ ?_
  rotate_left
  · show Act.put _ (some 28) _ = _
    simp only [Act.put, List.setIfInBounds_toArray, List.set_cons_zero, List.set_cons_succ, i64_w, i32_w]
    rfl
  refine one_ (i := 21) (N := some 39) #[true, true, true, true, true, true, true, true, true, true, true, true, true, true, true, true, true, true, true, true, true, true, false, false] rfl rfl (one_of HT_.out (by kernel_rfl)) (by decide) (fun K hK => ?_)
  refine goes_ Try.func31 (by kernel_rfl) rfl #[.pointer (some ⟨gR, 0, none⟩), .agg #[.int .u8 key.1, .int .u8 key.2.1, .int .u8 key.2.2.1, .int .u8 key.2.2.2.1, .int .u8 key.2.2.2.2.1, .int .u8 key.2.2.2.2.2.1, .int .u8 key.2.2.2.2.2.2.1, .int .u8 key.2.2.2.2.2.2.2], .int .i64 rank] (by rfl) rfl rfl (by simp only [List.map_toArray, List.map_cons, List.map_nil]; rfl) ?_
  with_reducible refine (rput_slot HS5.out key rank HML.out HZ5.out).mono ?_
  rintro e w6 ⟨rfl, F6, hs, hc, hf⟩
  refine ⟨_, rfl, ?_⟩
  have HS6 := Aside0.mk hs
  have HC6 := Aside0.mk (And.intro hc hf)
  have HWB6 := Aside0.mk (hc.heap HWB5.out HO5.out)
  have HOX6 := Aside0.mk (hc.heap HOX5.out HX5.out)
  have HO6 : Aside0 (¬ F6 gw) := ⟨fun q => by rcases hf _ q with q | q; exact HO5.out q; have := blk_lt HWB5.out; omega⟩
  have HX6 : Aside0 (¬ F6 w.heap.size) := ⟨fun q => by rcases hf _ q with q | q; exact HX5.out q; have := blk_lt HOX5.out; omega⟩
  have HZ6 : Aside0 (base ≤ w6.heap.size) := ⟨Nat.le_trans HZ5.out hc.size⟩
  clear hs hc hf
  refine hK.out _ _ ⟨(blk_cell HWB6.out 1).trans rfl, (blk_cell HWB6.out 3).trans rfl, (blk_cell HOX6.out 2).trans rfl, (blk_cell HOX6.out 3).trans rfl, (blk_cell HOX6.out 4).trans rfl, (blk_cell HOX6.out 5).trans rfl, (blk_cell HOX6.out 6).trans rfl, (blk_cell HOX6.out 7).trans rfl, (blk_cell HOX6.out 8).trans rfl, (blk_cell HOX6.out 9).trans rfl, (blk_cell HOX6.out 10).trans rfl⟩ (fun hHeld => ?_)
  clear hK K
  refine norm_ (a' := ?_) ?_ ?_
  rotate_left
  · show Act.put _ (some 39) _ = _
    simp only [Act.put, List.setIfInBounds_toArray, List.set_cons_zero, List.set_cons_succ, i64_w, i32_w]
    rfl
  refine pure_ (i := 22) (N := some 40) (v := ?_) (a' := ?_) #[true, true, true, true, true, true, true, true, true, true, true, true, true, true, true, true, true, true, true, true, true, true, true, false] rfl rfl (any_of HT_.out (by kernel_rfl)) (fun _ _ _ h => h) (Or.inl ⟨by rfl, ?_⟩) ?_ ?_
  rotate_left
  · intro w'
    go_simp
    with_reducible rfl
  rotate_left
  · simp only [Act.put, List.setIfInBounds_toArray, List.set_cons_zero, List.set_cons_succ, i64_w, i32_w]
    rfl
  refine pure_ (i := 23) (N := some 4) (v := ?_) (a' := ?_) #[true, true, true, true, true, true, true, true, true, true, true, true, true, true, true, true, true, true, true, true, true, true, true, true] rfl rfl (any_of HT_.out (by kernel_rfl)) (fun _ _ _ h => h) (Or.inl ⟨by rfl, ?_⟩) ?_ ?_
  rotate_left
  · intro w'
    go_simp
    with_reducible rfl
  rotate_left
  · simp only [Act.put, List.setIfInBounds_toArray, List.set_cons_zero, List.set_cons_succ, i64_w, i32_w]
    rfl
  refine done_ (done_of HT_.out (by kernel_rfl)) ?_
  have HS7 : Aside0 (Slot w6 base gH gR ord (putM ord M c key rank) (putC ord c) ((putM ord M c key rank).map pairOf) F6) := ⟨put_map ord H.out.keysM c key rank ▸ HS6.out⟩
  have HC7 : Aside0 (Chg F w4 w6 ∧ ∀ i, F6 i → F i ∨ w4.heap.size ≤ i) := ⟨HC5.out.1.then HC6.out.1 HC5.out.2, fun i q => by rcases HC6.out.2 i q with q | q; exact HC5.out.2 i q; exact Or.inr (Nat.le_trans HC5.out.1.size q)⟩
  try clear hHeld
  go_wp2
  go_ret
  exact ⟨by first | rfl | simp, F6, HS7.out, (Chg.of_below HB4.out).trans HC7.out.1, fun i q => by rcases HC7.out.2 i q with q | q; exact Or.inl q; exact Or.inr (Nat.le_trans HB4.out.size q)⟩
end Go.Proofs.Ytibipbfmhbkpiaa.HeapDI
/- One order of the script: Pop. Conditions: those that stand in each theorem. Written by wip/gen/heapdo.py. -/
namespace Go.Proofs.Ytibipbfmhbkpiaa.HeapDI
open Go.RowKit Go.Proofs.YtibipbfmhbkpiaaW.PrintWords Go.Proofs.YtibipbfmhbkpiaaW.PrintLast Go.Proofs.YtibipbfmhbkpiaaW.PrintMore Go.Proofs.Ytibipbfmhbkpiaa.HeapW Go.Proofs.Ytibipbfmhbkpiaa.HeapP Go.Proofs.Ytibipbfmhbkpiaa.MapAt Go.Proofs.Ytibipbfmhbkpiaa.Q
set_option linter.unusedVariables false
set_option linter.unusedSimpArgs false
set_option maxHeartbeats 8000000 in
set_option maxRecDepth 100000 in
theorem does_pop0 {w : World} {base gw gH gR : Nat} {ord : Int} {M : List It} {c : Nat} {F : Nat → Prop} {p1 p3 : Value} (on rank : Int) (key : Kt) (h : Slot w base gH gR ord M c (M.map pairOf) F) (hW : w.heap[gw]? = some (.cells #[(.pointer (some ⟨gH, 0, none⟩)), p1, (.pointer (some ⟨gR, 0, none⟩)), p3] 29 (0, 0))) (ho : ¬ F gw) (hk : okK key) (hc : c < 4000000000000) (hM : M.length ≤ c) (hb : base ≤ w.heap.size) (hon : bits BinOp.and IntKind.i64 on 1 = 0) :
    Calls Try.prog 9 #[.pointer (some ⟨gw, 0, none⟩), .agg #[.int .i64 2, .int .i64 on, .int .i64 rank, .int .u8 key.1, .int .u8 key.2.1, .int .u8 key.2.2.1, .int .u8 key.2.2.2.1, .int .u8 key.2.2.2.2.1, .int .u8 key.2.2.2.2.2.1, .int .u8 key.2.2.2.2.2.2.1, .int .u8 key.2.2.2.2.2.2.2]] w fun e w' => e = .returned (.bool true) ∧ ∃ F', Slot w' base gH gR ord (popM ord M) c ((popM ord M).map pairOf) F' ∧ Chg F w w' ∧ ∀ i, F' i → F i ∨ w.heap.size ≤ i := by
  have H := Aside0.mk h
  have HW := Aside0.mk hW
  have HO := Aside0.mk ho
  have HK := Aside0.mk hk
  have HC := Aside0.mk hc
  have HM := Aside0.mk hM
  have HML : Aside0 ((M.map pairOf).length ≤ 4000000000000) := ⟨by rw [List.length_map]; omega⟩
  have HBS := Aside0.mk hb
  have HGW : Aside0 (gw < w.heap.size) := ⟨blk_lt hW⟩
  clear h hW ho hk hc hM hb
  go_enter Try.func9, Try.ntmps9
  go_upto_region 1 with (fail)
  have HOX : Aside0 ((w.alloc (.cells #[.int .i64 2, .int .i64 on, .int .i64 rank, .int .u8 key.1, .int .u8 key.2.1, .int .u8 key.2.2.1, .int .u8 key.2.2.2.1, .int .u8 key.2.2.2.2.1, .int .u8 key.2.2.2.2.2.1, .int .u8 key.2.2.2.2.2.2.1, .int .u8 key.2.2.2.2.2.2.2] 35)).heap[w.heap.size]? = some (.cells #[.int .i64 2, .int .i64 on, .int .i64 rank, .int .u8 key.1, .int .u8 key.2.1, .int .u8 key.2.2.1, .int .u8 key.2.2.2.1, .int .u8 key.2.2.2.2.1, .int .u8 key.2.2.2.2.2.1, .int .u8 key.2.2.2.2.2.2.1, .int .u8 key.2.2.2.2.2.2.2] 35)) := ⟨blk_new _ _⟩
  have HBB : Aside0 (Below w.heap.size w (w.alloc (.cells #[.int .i64 2, .int .i64 on, .int .i64 rank, .int .u8 key.1, .int .u8 key.2.1, .int .u8 key.2.2.1, .int .u8 key.2.2.2.1, .int .u8 key.2.2.2.2.1, .int .u8 key.2.2.2.2.2.1, .int .u8 key.2.2.2.2.2.2.1, .int .u8 key.2.2.2.2.2.2.2] 35))) := ⟨below_alloc (Below.refl _ _) _⟩
  have HS := Aside0.mk (H.out.below HBB.out)
  have HWB := Aside0.mk ((HBB.out.block _ HGW.out).trans HW.out)
  generalize w.alloc (.cells #[.int .i64 2, .int .i64 on, .int .i64 rank, .int .u8 key.1, .int .u8 key.2.1, .int .u8 key.2.2.1, .int .u8 key.2.2.2.1, .int .u8 key.2.2.2.2.1, .int .u8 key.2.2.2.2.2.1, .int .u8 key.2.2.2.2.2.2.1, .int .u8 key.2.2.2.2.2.2.2] 35) = wB at HOX HBB HS HWB ⊢
  have hcO0 : wB.cell? ⟨w.heap.size, 0, none⟩ = some (.int .i64 2) := (blk_cell HOX.out 0).trans rfl
  have hcO1 : wB.cell? ⟨w.heap.size, 1, none⟩ = some (.int .i64 on) := (blk_cell HOX.out 1).trans rfl
  have hcW0 := (blk_cell HWB.out 0).trans rfl
  have hcW1 := (blk_cell HWB.out 2).trans rfl
  have heq := eq_id
  go_wp2_with fail
  refine (hpop_slot HS.out HC.out HM.out).mono ?_
  rintro e w5 ⟨rfl, F5, hs5, hc5, hf5⟩
  have HS5 := Aside0.mk hs5
  have HC5 := Aside0.mk (And.intro hc5 hf5)
  have HWB5 := Aside0.mk (hc5.heap HWB.out HO.out)
  have HX5 := Aside0.mk (blk_new w5 (.cells #[.int .u8 0, .int .u8 0, .int .u8 0, .int .u8 0, .int .u8 0, .int .u8 0, .int .u8 0, .int .u8 0] 33))
  obtain ⟨ok, hok⟩ : ∃ ok, ok = (fstM ord M).isSome := ⟨_, rfl⟩
  obtain ⟨ko, hko⟩ : ∃ ko, ko = keyO ord M := ⟨_, rfl⟩
  obtain ⟨ro, hro⟩ : ∃ ro, ro = rankO ord M := ⟨_, rfl⟩
  have HOKR := Aside0.mk (And.intro hok (And.intro hko hro))
  rw [← hok, ← hko, ← hro]
  clear hs5 hc5 hf5 hok hko hro hcW0 hcW1
  go_wp2_with ((with_reducible refine gate_store (t := 33) (p := 6) (v := .tmp 51) rfl ?_); refine wpList_store_row rfl 33 (.tmp 6) (.tmp 51) rfl w5.heap.size #[.int .u8 ko.1, .int .u8 ko.2.1, .int .u8 ko.2.2.1, .int .u8 ko.2.2.2.1, .int .u8 ko.2.2.2.2.1, .int .u8 ko.2.2.2.2.2.1, .int .u8 ko.2.2.2.2.2.2.1, .int .u8 ko.2.2.2.2.2.2.2] rfl rfl _ _ HX5.out infoK rfl (by simp [Value.oneCell']) ?_; have hs := chg_row (cs := #[.int .u8 ko.1, .int .u8 ko.2.1, .int .u8 ko.2.2.1, .int .u8 ko.2.2.2.1, .int .u8 ko.2.2.2.2.1, .int .u8 ko.2.2.2.2.2.1, .int .u8 ko.2.2.2.2.2.2.1, .int .u8 ko.2.2.2.2.2.2.2]) HX5.out; have HXK6 := Aside0.mk hs.1; have hsc := (Chg.of_below (F := (fun _ => False)) (below_alloc (Below.refl w5.heap.size w5) (.cells #[.int .u8 0, .int .u8 0, .int .u8 0, .int .u8 0, .int .u8 0, .int .u8 0, .int .u8 0, .int .u8 0] 33))).then hs.2 (fun i hi => Or.inr (Nat.le_of_eq (Eq.symm hi))); have HB6 : Aside0 (Below w5.heap.size w5 ((w5.alloc (.cells #[.int .u8 0, .int .u8 0, .int .u8 0, .int .u8 0, .int .u8 0, .int .u8 0, .int .u8 0, .int .u8 0] 33)).setRow w5.heap.size #[.int .u8 ko.1, .int .u8 ko.2.1, .int .u8 ko.2.2.1, .int .u8 ko.2.2.2.1, .int .u8 ko.2.2.2.2.1, .int .u8 ko.2.2.2.2.2.1, .int .u8 ko.2.2.2.2.2.2.1, .int .u8 ko.2.2.2.2.2.2.2])) := ⟨hsc.below (Nat.le_refl _) (fun _ q => q.elim)⟩; clear hsc; have HS6 := Aside0.mk (HS5.out.below HB6.out); have HWB6 := Aside0.mk ((HB6.out.block _ (blk_lt HWB5.out)).trans HWB5.out); clear hs; generalize (w5.alloc (.cells #[.int .u8 0, .int .u8 0, .int .u8 0, .int .u8 0, .int .u8 0, .int .u8 0, .int .u8 0, .int .u8 0] 33)).setRow w5.heap.size #[.int .u8 ko.1, .int .u8 ko.2.1, .int .u8 ko.2.2.1, .int .u8 ko.2.2.2.1, .int .u8 ko.2.2.2.2.1, .int .u8 ko.2.2.2.2.2.1, .int .u8 ko.2.2.2.2.2.2.1, .int .u8 ko.2.2.2.2.2.2.2] = w6 at HXK6 HB6 HS6 HWB6 ⊢; have hcW0 := (blk_cell HWB6.out 0).trans rfl; have hcW1 := (blk_cell HWB6.out 2).trans rfl)
  refine (rpop_slot HS6.out HML.out (Nat.le_trans HBS.out (Nat.le_trans HBB.out.size (Nat.le_trans HC5.out.1.size HB6.out.size)))).mono ?_
  rintro e w7 ⟨rfl, F7, hs7, hc7, hf7⟩
  have HS7 := Aside0.mk hs7
  have HC7 := Aside0.mk (And.intro hc7 hf7)
  have HG6 : Aside0 (¬ F5 w5.heap.size) := ⟨fun q => by have := (HS5.out.ge _ q).2; omega⟩
  have HXK7 := Aside0.mk (hc7.heap HXK6.out HG6.out)
  have HX7 := Aside0.mk (blk_new w7 (.cells #[.int .u8 0, .int .u8 0, .int .u8 0, .int .u8 0, .int .u8 0, .int .u8 0, .int .u8 0, .int .u8 0, .int .i64 0] 87))
  rw [fst_map, item_map, ← HOKR.out.1, ← HOKR.out.2.1, ← HOKR.out.2.2]
  have HLT7 : Aside0 (w5.heap.size < w7.heap.size) := ⟨blk_lt HXK7.out⟩
  clear hs7 hc7 hf7 hcW0 hcW1
  go_upto_region 8 with ((with_reducible refine gate_store (t := 87) (p := 9) (v := .tmp 62) rfl ?_); refine wpList_store_row rfl 87 (.tmp 9) (.tmp 62) rfl w7.heap.size #[.int .u8 ko.1, .int .u8 ko.2.1, .int .u8 ko.2.2.1, .int .u8 ko.2.2.2.1, .int .u8 ko.2.2.2.2.1, .int .u8 ko.2.2.2.2.2.1, .int .u8 ko.2.2.2.2.2.2.1, .int .u8 ko.2.2.2.2.2.2.2, .int .i64 ro] rfl rfl _ _ HX7.out infoRI' rfl (by simp [Value.oneCell']) ?_; have hs := chg_row (cs := #[.int .u8 ko.1, .int .u8 ko.2.1, .int .u8 ko.2.2.1, .int .u8 ko.2.2.2.1, .int .u8 ko.2.2.2.2.1, .int .u8 ko.2.2.2.2.2.1, .int .u8 ko.2.2.2.2.2.2.1, .int .u8 ko.2.2.2.2.2.2.2, .int .i64 ro]) HX7.out; have HXR8 := Aside0.mk hs.1; have hsc := (Chg.of_below (F := (fun _ => False)) (below_alloc (Below.refl w7.heap.size w7) (.cells #[.int .u8 0, .int .u8 0, .int .u8 0, .int .u8 0, .int .u8 0, .int .u8 0, .int .u8 0, .int .u8 0, .int .i64 0] 87))).then hs.2 (fun i hi => Or.inr (Nat.le_of_eq (Eq.symm hi))); have HB8 : Aside0 (Below w7.heap.size w7 ((w7.alloc (.cells #[.int .u8 0, .int .u8 0, .int .u8 0, .int .u8 0, .int .u8 0, .int .u8 0, .int .u8 0, .int .u8 0, .int .i64 0] 87)).setRow w7.heap.size #[.int .u8 ko.1, .int .u8 ko.2.1, .int .u8 ko.2.2.1, .int .u8 ko.2.2.2.1, .int .u8 ko.2.2.2.2.1, .int .u8 ko.2.2.2.2.2.1, .int .u8 ko.2.2.2.2.2.2.1, .int .u8 ko.2.2.2.2.2.2.2, .int .i64 ro])) := ⟨hsc.below (Nat.le_refl _) (fun _ q => q.elim)⟩; clear hsc; have HS8 := Aside0.mk (HS7.out.below HB8.out); have HXK8 := Aside0.mk ((HB8.out.block _ HLT7.out).trans HXK7.out); clear hs; generalize (w7.alloc (.cells #[.int .u8 0, .int .u8 0, .int .u8 0, .int .u8 0, .int .u8 0, .int .u8 0, .int .u8 0, .int .u8 0, .int .i64 0] 87)).setRow w7.heap.size #[.int .u8 ko.1, .int .u8 ko.2.1, .int .u8 ko.2.2.1, .int .u8 ko.2.2.2.1, .int .u8 ko.2.2.2.2.1, .int .u8 ko.2.2.2.2.2.1, .int .u8 ko.2.2.2.2.2.2.1, .int .u8 ko.2.2.2.2.2.2.2, .int .i64 ro] = w8 at HXR8 HB8 HS8 HXK8 ⊢)
  have hcK0 : w8.cell? ⟨w5.heap.size, 0, none⟩ = some (.int .u8 ko.1) := (blk_cell HXK8.out 0).trans rfl
  have hcK1 : w8.cell? ⟨w5.heap.size, 1, none⟩ = some (.int .u8 ko.2.1) := (blk_cell HXK8.out 1).trans rfl
  have hcK2 : w8.cell? ⟨w5.heap.size, 2, none⟩ = some (.int .u8 ko.2.2.1) := (blk_cell HXK8.out 2).trans rfl
  have hcK3 : w8.cell? ⟨w5.heap.size, 3, none⟩ = some (.int .u8 ko.2.2.2.1) := (blk_cell HXK8.out 3).trans rfl
  have hcK4 : w8.cell? ⟨w5.heap.size, 4, none⟩ = some (.int .u8 ko.2.2.2.2.1) := (blk_cell HXK8.out 4).trans rfl
  have hcK5 : w8.cell? ⟨w5.heap.size, 5, none⟩ = some (.int .u8 ko.2.2.2.2.2.1) := (blk_cell HXK8.out 5).trans rfl
  have hcK6 : w8.cell? ⟨w5.heap.size, 6, none⟩ = some (.int .u8 ko.2.2.2.2.2.2.1) := (blk_cell HXK8.out 6).trans rfl
  have hcK7 : w8.cell? ⟨w5.heap.size, 7, none⟩ = some (.int .u8 ko.2.2.2.2.2.2.2) := (blk_cell HXK8.out 7).trans rfl
  have hcR0 : w8.cell? ⟨w7.heap.size, 0, none⟩ = some (.int .u8 ko.1) := (blk_cell HXR8.out 0).trans rfl
  have hcR1 : w8.cell? ⟨w7.heap.size, 1, none⟩ = some (.int .u8 ko.2.1) := (blk_cell HXR8.out 1).trans rfl
  have hcR2 : w8.cell? ⟨w7.heap.size, 2, none⟩ = some (.int .u8 ko.2.2.1) := (blk_cell HXR8.out 2).trans rfl
  have hcR3 : w8.cell? ⟨w7.heap.size, 3, none⟩ = some (.int .u8 ko.2.2.2.1) := (blk_cell HXR8.out 3).trans rfl
  have hcR4 : w8.cell? ⟨w7.heap.size, 4, none⟩ = some (.int .u8 ko.2.2.2.2.1) := (blk_cell HXR8.out 4).trans rfl
  have hcR5 : w8.cell? ⟨w7.heap.size, 5, none⟩ = some (.int .u8 ko.2.2.2.2.2.1) := (blk_cell HXR8.out 5).trans rfl
  have hcR6 : w8.cell? ⟨w7.heap.size, 6, none⟩ = some (.int .u8 ko.2.2.2.2.2.2.1) := (blk_cell HXR8.out 6).trans rfl
  have hcR7 : w8.cell? ⟨w7.heap.size, 7, none⟩ = some (.int .u8 ko.2.2.2.2.2.2.2) := (blk_cell HXR8.out 7).trans rfl
  have hcR8 : w8.cell? ⟨w7.heap.size, 8, none⟩ = some (.int .i64 ro) := (blk_cell HXR8.out 8).trans rfl
  cases ok with
  | true =>
    go_wp2
    go_ret
    exact ⟨by first | rfl | simp, F7, pop_map ord H.out.keysM ▸ HS8.out, ((Chg.of_below HBB.out).trans ((HC5.out.1.then (Chg.of_below HB6.out (F := fun _ => False)) (fun _ q => q.elim)).then HC7.out.1 HC5.out.2)).trans (Chg.of_below HB8.out (F := F)), fun i q => by rcases HC7.out.2 i q with q | q; rcases HC5.out.2 i q with q | q; exact Or.inl q; exact Or.inr (Nat.le_trans HBB.out.size q); exact Or.inr (Nat.le_trans HBB.out.size (Nat.le_trans HC5.out.1.size (Nat.le_trans HB6.out.size q)))⟩
  | false =>
    go_wp2
    go_ret
    exact ⟨by first | rfl | simp, F7, pop_map ord H.out.keysM ▸ HS8.out, ((Chg.of_below HBB.out).trans ((HC5.out.1.then (Chg.of_below HB6.out (F := fun _ => False)) (fun _ q => q.elim)).then HC7.out.1 HC5.out.2)).trans (Chg.of_below HB8.out (F := F)), fun i q => by rcases HC7.out.2 i q with q | q; rcases HC5.out.2 i q with q | q; exact Or.inl q; exact Or.inr (Nat.le_trans HBB.out.size q); exact Or.inr (Nat.le_trans HBB.out.size (Nat.le_trans HC5.out.1.size (Nat.le_trans HB6.out.size q)))⟩
set_option maxHeartbeats 8000000 in
set_option maxRecDepth 100000 in
theorem does_pop1 {w : World} {base gw gH gR : Nat} {ord : Int} {M : List It} {c : Nat} {F : Nat → Prop} {p0 p2 : Value} (on rank : Int) (key : Kt) (h : Slot w base gH gR ord M c (M.map pairOf) F) (hW : w.heap[gw]? = some (.cells #[p0, (.pointer (some ⟨gH, 0, none⟩)), p2, (.pointer (some ⟨gR, 0, none⟩))] 29 (0, 0))) (ho : ¬ F gw) (hk : okK key) (hc : c < 4000000000000) (hM : M.length ≤ c) (hb : base ≤ w.heap.size) (hon : bits BinOp.and IntKind.i64 on 1 = 1) :
    Calls Try.prog 9 #[.pointer (some ⟨gw, 0, none⟩), .agg #[.int .i64 2, .int .i64 on, .int .i64 rank, .int .u8 key.1, .int .u8 key.2.1, .int .u8 key.2.2.1, .int .u8 key.2.2.2.1, .int .u8 key.2.2.2.2.1, .int .u8 key.2.2.2.2.2.1, .int .u8 key.2.2.2.2.2.2.1, .int .u8 key.2.2.2.2.2.2.2]] w fun e w' => e = .returned (.bool true) ∧ ∃ F', Slot w' base gH gR ord (popM ord M) c ((popM ord M).map pairOf) F' ∧ Chg F w w' ∧ ∀ i, F' i → F i ∨ w.heap.size ≤ i := by
  have H := Aside0.mk h
  have HW := Aside0.mk hW
  have HO := Aside0.mk ho
  have HK := Aside0.mk hk
  have HC := Aside0.mk hc
  have HM := Aside0.mk hM
  have HML : Aside0 ((M.map pairOf).length ≤ 4000000000000) := ⟨by rw [List.length_map]; omega⟩
  have HBS := Aside0.mk hb
  have HGW : Aside0 (gw < w.heap.size) := ⟨blk_lt hW⟩
  clear h hW ho hk hc hM hb
  go_enter Try.func9, Try.ntmps9
  go_upto_region 1 with (fail)
  have HOX : Aside0 ((w.alloc (.cells #[.int .i64 2, .int .i64 on, .int .i64 rank, .int .u8 key.1, .int .u8 key.2.1, .int .u8 key.2.2.1, .int .u8 key.2.2.2.1, .int .u8 key.2.2.2.2.1, .int .u8 key.2.2.2.2.2.1, .int .u8 key.2.2.2.2.2.2.1, .int .u8 key.2.2.2.2.2.2.2] 35)).heap[w.heap.size]? = some (.cells #[.int .i64 2, .int .i64 on, .int .i64 rank, .int .u8 key.1, .int .u8 key.2.1, .int .u8 key.2.2.1, .int .u8 key.2.2.2.1, .int .u8 key.2.2.2.2.1, .int .u8 key.2.2.2.2.2.1, .int .u8 key.2.2.2.2.2.2.1, .int .u8 key.2.2.2.2.2.2.2] 35)) := ⟨blk_new _ _⟩
  have HBB : Aside0 (Below w.heap.size w (w.alloc (.cells #[.int .i64 2, .int .i64 on, .int .i64 rank, .int .u8 key.1, .int .u8 key.2.1, .int .u8 key.2.2.1, .int .u8 key.2.2.2.1, .int .u8 key.2.2.2.2.1, .int .u8 key.2.2.2.2.2.1, .int .u8 key.2.2.2.2.2.2.1, .int .u8 key.2.2.2.2.2.2.2] 35))) := ⟨below_alloc (Below.refl _ _) _⟩
  have HS := Aside0.mk (H.out.below HBB.out)
  have HWB := Aside0.mk ((HBB.out.block _ HGW.out).trans HW.out)
  generalize w.alloc (.cells #[.int .i64 2, .int .i64 on, .int .i64 rank, .int .u8 key.1, .int .u8 key.2.1, .int .u8 key.2.2.1, .int .u8 key.2.2.2.1, .int .u8 key.2.2.2.2.1, .int .u8 key.2.2.2.2.2.1, .int .u8 key.2.2.2.2.2.2.1, .int .u8 key.2.2.2.2.2.2.2] 35) = wB at HOX HBB HS HWB ⊢
  have hcO0 : wB.cell? ⟨w.heap.size, 0, none⟩ = some (.int .i64 2) := (blk_cell HOX.out 0).trans rfl
  have hcO1 : wB.cell? ⟨w.heap.size, 1, none⟩ = some (.int .i64 on) := (blk_cell HOX.out 1).trans rfl
  have hcW0 := (blk_cell HWB.out 1).trans rfl
  have hcW1 := (blk_cell HWB.out 3).trans rfl
  have heq := eq_id
  go_wp2_with fail
  refine (hpop_slot HS.out HC.out HM.out).mono ?_
  rintro e w5 ⟨rfl, F5, hs5, hc5, hf5⟩
  have HS5 := Aside0.mk hs5
  have HC5 := Aside0.mk (And.intro hc5 hf5)
  have HWB5 := Aside0.mk (hc5.heap HWB.out HO.out)
  have HX5 := Aside0.mk (blk_new w5 (.cells #[.int .u8 0, .int .u8 0, .int .u8 0, .int .u8 0, .int .u8 0, .int .u8 0, .int .u8 0, .int .u8 0] 33))
  obtain ⟨ok, hok⟩ : ∃ ok, ok = (fstM ord M).isSome := ⟨_, rfl⟩
  obtain ⟨ko, hko⟩ : ∃ ko, ko = keyO ord M := ⟨_, rfl⟩
  obtain ⟨ro, hro⟩ : ∃ ro, ro = rankO ord M := ⟨_, rfl⟩
  have HOKR := Aside0.mk (And.intro hok (And.intro hko hro))
  rw [← hok, ← hko, ← hro]
  clear hs5 hc5 hf5 hok hko hro hcW0 hcW1
  go_wp2_with ((with_reducible refine gate_store (t := 33) (p := 6) (v := .tmp 51) rfl ?_); refine wpList_store_row rfl 33 (.tmp 6) (.tmp 51) rfl w5.heap.size #[.int .u8 ko.1, .int .u8 ko.2.1, .int .u8 ko.2.2.1, .int .u8 ko.2.2.2.1, .int .u8 ko.2.2.2.2.1, .int .u8 ko.2.2.2.2.2.1, .int .u8 ko.2.2.2.2.2.2.1, .int .u8 ko.2.2.2.2.2.2.2] rfl rfl _ _ HX5.out infoK rfl (by simp [Value.oneCell']) ?_; have hs := chg_row (cs := #[.int .u8 ko.1, .int .u8 ko.2.1, .int .u8 ko.2.2.1, .int .u8 ko.2.2.2.1, .int .u8 ko.2.2.2.2.1, .int .u8 ko.2.2.2.2.2.1, .int .u8 ko.2.2.2.2.2.2.1, .int .u8 ko.2.2.2.2.2.2.2]) HX5.out; have HXK6 := Aside0.mk hs.1; have hsc := (Chg.of_below (F := (fun _ => False)) (below_alloc (Below.refl w5.heap.size w5) (.cells #[.int .u8 0, .int .u8 0, .int .u8 0, .int .u8 0, .int .u8 0, .int .u8 0, .int .u8 0, .int .u8 0] 33))).then hs.2 (fun i hi => Or.inr (Nat.le_of_eq (Eq.symm hi))); have HB6 : Aside0 (Below w5.heap.size w5 ((w5.alloc (.cells #[.int .u8 0, .int .u8 0, .int .u8 0, .int .u8 0, .int .u8 0, .int .u8 0, .int .u8 0, .int .u8 0] 33)).setRow w5.heap.size #[.int .u8 ko.1, .int .u8 ko.2.1, .int .u8 ko.2.2.1, .int .u8 ko.2.2.2.1, .int .u8 ko.2.2.2.2.1, .int .u8 ko.2.2.2.2.2.1, .int .u8 ko.2.2.2.2.2.2.1, .int .u8 ko.2.2.2.2.2.2.2])) := ⟨hsc.below (Nat.le_refl _) (fun _ q => q.elim)⟩; clear hsc; have HS6 := Aside0.mk (HS5.out.below HB6.out); have HWB6 := Aside0.mk ((HB6.out.block _ (blk_lt HWB5.out)).trans HWB5.out); clear hs; generalize (w5.alloc (.cells #[.int .u8 0, .int .u8 0, .int .u8 0, .int .u8 0, .int .u8 0, .int .u8 0, .int .u8 0, .int .u8 0] 33)).setRow w5.heap.size #[.int .u8 ko.1, .int .u8 ko.2.1, .int .u8 ko.2.2.1, .int .u8 ko.2.2.2.1, .int .u8 ko.2.2.2.2.1, .int .u8 ko.2.2.2.2.2.1, .int .u8 ko.2.2.2.2.2.2.1, .int .u8 ko.2.2.2.2.2.2.2] = w6 at HXK6 HB6 HS6 HWB6 ⊢; have hcW0 := (blk_cell HWB6.out 1).trans rfl; have hcW1 := (blk_cell HWB6.out 3).trans rfl)
  refine (rpop_slot HS6.out HML.out (Nat.le_trans HBS.out (Nat.le_trans HBB.out.size (Nat.le_trans HC5.out.1.size HB6.out.size)))).mono ?_
  rintro e w7 ⟨rfl, F7, hs7, hc7, hf7⟩
  have HS7 := Aside0.mk hs7
  have HC7 := Aside0.mk (And.intro hc7 hf7)
  have HG6 : Aside0 (¬ F5 w5.heap.size) := ⟨fun q => by have := (HS5.out.ge _ q).2; omega⟩
  have HXK7 := Aside0.mk (hc7.heap HXK6.out HG6.out)
  have HX7 := Aside0.mk (blk_new w7 (.cells #[.int .u8 0, .int .u8 0, .int .u8 0, .int .u8 0, .int .u8 0, .int .u8 0, .int .u8 0, .int .u8 0, .int .i64 0] 87))
  rw [fst_map, item_map, ← HOKR.out.1, ← HOKR.out.2.1, ← HOKR.out.2.2]
  have HLT7 : Aside0 (w5.heap.size < w7.heap.size) := ⟨blk_lt HXK7.out⟩
  clear hs7 hc7 hf7 hcW0 hcW1
  go_upto_region 8 with ((with_reducible refine gate_store (t := 87) (p := 9) (v := .tmp 62) rfl ?_); refine wpList_store_row rfl 87 (.tmp 9) (.tmp 62) rfl w7.heap.size #[.int .u8 ko.1, .int .u8 ko.2.1, .int .u8 ko.2.2.1, .int .u8 ko.2.2.2.1, .int .u8 ko.2.2.2.2.1, .int .u8 ko.2.2.2.2.2.1, .int .u8 ko.2.2.2.2.2.2.1, .int .u8 ko.2.2.2.2.2.2.2, .int .i64 ro] rfl rfl _ _ HX7.out infoRI' rfl (by simp [Value.oneCell']) ?_; have hs := chg_row (cs := #[.int .u8 ko.1, .int .u8 ko.2.1, .int .u8 ko.2.2.1, .int .u8 ko.2.2.2.1, .int .u8 ko.2.2.2.2.1, .int .u8 ko.2.2.2.2.2.1, .int .u8 ko.2.2.2.2.2.2.1, .int .u8 ko.2.2.2.2.2.2.2, .int .i64 ro]) HX7.out; have HXR8 := Aside0.mk hs.1; have hsc := (Chg.of_below (F := (fun _ => False)) (below_alloc (Below.refl w7.heap.size w7) (.cells #[.int .u8 0, .int .u8 0, .int .u8 0, .int .u8 0, .int .u8 0, .int .u8 0, .int .u8 0, .int .u8 0, .int .i64 0] 87))).then hs.2 (fun i hi => Or.inr (Nat.le_of_eq (Eq.symm hi))); have HB8 : Aside0 (Below w7.heap.size w7 ((w7.alloc (.cells #[.int .u8 0, .int .u8 0, .int .u8 0, .int .u8 0, .int .u8 0, .int .u8 0, .int .u8 0, .int .u8 0, .int .i64 0] 87)).setRow w7.heap.size #[.int .u8 ko.1, .int .u8 ko.2.1, .int .u8 ko.2.2.1, .int .u8 ko.2.2.2.1, .int .u8 ko.2.2.2.2.1, .int .u8 ko.2.2.2.2.2.1, .int .u8 ko.2.2.2.2.2.2.1, .int .u8 ko.2.2.2.2.2.2.2, .int .i64 ro])) := ⟨hsc.below (Nat.le_refl _) (fun _ q => q.elim)⟩; clear hsc; have HS8 := Aside0.mk (HS7.out.below HB8.out); have HXK8 := Aside0.mk ((HB8.out.block _ HLT7.out).trans HXK7.out); clear hs; generalize (w7.alloc (.cells #[.int .u8 0, .int .u8 0, .int .u8 0, .int .u8 0, .int .u8 0, .int .u8 0, .int .u8 0, .int .u8 0, .int .i64 0] 87)).setRow w7.heap.size #[.int .u8 ko.1, .int .u8 ko.2.1, .int .u8 ko.2.2.1, .int .u8 ko.2.2.2.1, .int .u8 ko.2.2.2.2.1, .int .u8 ko.2.2.2.2.2.1, .int .u8 ko.2.2.2.2.2.2.1, .int .u8 ko.2.2.2.2.2.2.2, .int .i64 ro] = w8 at HXR8 HB8 HS8 HXK8 ⊢)
  have hcK0 : w8.cell? ⟨w5.heap.size, 0, none⟩ = some (.int .u8 ko.1) := (blk_cell HXK8.out 0).trans rfl
  have hcK1 : w8.cell? ⟨w5.heap.size, 1, none⟩ = some (.int .u8 ko.2.1) := (blk_cell HXK8.out 1).trans rfl
  have hcK2 : w8.cell? ⟨w5.heap.size, 2, none⟩ = some (.int .u8 ko.2.2.1) := (blk_cell HXK8.out 2).trans rfl
  have hcK3 : w8.cell? ⟨w5.heap.size, 3, none⟩ = some (.int .u8 ko.2.2.2.1) := (blk_cell HXK8.out 3).trans rfl
  have hcK4 : w8.cell? ⟨w5.heap.size, 4, none⟩ = some (.int .u8 ko.2.2.2.2.1) := (blk_cell HXK8.out 4).trans rfl
  have hcK5 : w8.cell? ⟨w5.heap.size, 5, none⟩ = some (.int .u8 ko.2.2.2.2.2.1) := (blk_cell HXK8.out 5).trans rfl
  have hcK6 : w8.cell? ⟨w5.heap.size, 6, none⟩ = some (.int .u8 ko.2.2.2.2.2.2.1) := (blk_cell HXK8.out 6).trans rfl
  have hcK7 : w8.cell? ⟨w5.heap.size, 7, none⟩ = some (.int .u8 ko.2.2.2.2.2.2.2) := (blk_cell HXK8.out 7).trans rfl
  have hcR0 : w8.cell? ⟨w7.heap.size, 0, none⟩ = some (.int .u8 ko.1) := (blk_cell HXR8.out 0).trans rfl
  have hcR1 : w8.cell? ⟨w7.heap.size, 1, none⟩ = some (.int .u8 ko.2.1) := (blk_cell HXR8.out 1).trans rfl
  have hcR2 : w8.cell? ⟨w7.heap.size, 2, none⟩ = some (.int .u8 ko.2.2.1) := (blk_cell HXR8.out 2).trans rfl
  have hcR3 : w8.cell? ⟨w7.heap.size, 3, none⟩ = some (.int .u8 ko.2.2.2.1) := (blk_cell HXR8.out 3).trans rfl
  have hcR4 : w8.cell? ⟨w7.heap.size, 4, none⟩ = some (.int .u8 ko.2.2.2.2.1) := (blk_cell HXR8.out 4).trans rfl
  have hcR5 : w8.cell? ⟨w7.heap.size, 5, none⟩ = some (.int .u8 ko.2.2.2.2.2.1) := (blk_cell HXR8.out 5).trans rfl
  have hcR6 : w8.cell? ⟨w7.heap.size, 6, none⟩ = some (.int .u8 ko.2.2.2.2.2.2.1) := (blk_cell HXR8.out 6).trans rfl
  have hcR7 : w8.cell? ⟨w7.heap.size, 7, none⟩ = some (.int .u8 ko.2.2.2.2.2.2.2) := (blk_cell HXR8.out 7).trans rfl
  have hcR8 : w8.cell? ⟨w7.heap.size, 8, none⟩ = some (.int .i64 ro) := (blk_cell HXR8.out 8).trans rfl
  cases ok with
  | true =>
    go_wp2
    go_ret
    exact ⟨by first | rfl | simp, F7, pop_map ord H.out.keysM ▸ HS8.out, ((Chg.of_below HBB.out).trans ((HC5.out.1.then (Chg.of_below HB6.out (F := fun _ => False)) (fun _ q => q.elim)).then HC7.out.1 HC5.out.2)).trans (Chg.of_below HB8.out (F := F)), fun i q => by rcases HC7.out.2 i q with q | q; rcases HC5.out.2 i q with q | q; exact Or.inl q; exact Or.inr (Nat.le_trans HBB.out.size q); exact Or.inr (Nat.le_trans HBB.out.size (Nat.le_trans HC5.out.1.size (Nat.le_trans HB6.out.size q)))⟩
  | false =>
    go_wp2
    go_ret
    exact ⟨by first | rfl | simp, F7, pop_map ord H.out.keysM ▸ HS8.out, ((Chg.of_below HBB.out).trans ((HC5.out.1.then (Chg.of_below HB6.out (F := fun _ => False)) (fun _ q => q.elim)).then HC7.out.1 HC5.out.2)).trans (Chg.of_below HB8.out (F := F)), fun i q => by rcases HC7.out.2 i q with q | q; rcases HC5.out.2 i q with q | q; exact Or.inl q; exact Or.inr (Nat.le_trans HBB.out.size q); exact Or.inr (Nat.le_trans HBB.out.size (Nat.le_trans HC5.out.1.size (Nat.le_trans HB6.out.size q)))⟩
end Go.Proofs.Ytibipbfmhbkpiaa.HeapDI
/- One order of the script: Drop. Conditions: those that stand in each theorem. Written by wip/gen/heapdo.py. -/
namespace Go.Proofs.Ytibipbfmhbkpiaa.HeapDI
open Go.RowKit Go.Proofs.YtibipbfmhbkpiaaW.PrintWords Go.Proofs.YtibipbfmhbkpiaaW.PrintLast Go.Proofs.YtibipbfmhbkpiaaW.PrintMore Go.Proofs.Ytibipbfmhbkpiaa.HeapW Go.Proofs.Ytibipbfmhbkpiaa.HeapP Go.Proofs.Ytibipbfmhbkpiaa.MapAt Go.Proofs.Ytibipbfmhbkpiaa.Q
set_option linter.unusedVariables false
set_option linter.unusedSimpArgs false
def does.T10 : Bool × List (List Nat × List Nat) := (true, [([], []), ([], []), ([0], [0]), ([2], [2]), ([3, 1], [1, 3]), ([4], [4]), ([], []), ([6], [6]), ([5, 7], [5, 7]), ([], []), ([], []), ([9], [9]), ([11], [11]), ([12, 10], [10, 12]), ([13], [13]), ([], []), ([15], [15]), ([14, 16, 8], [14, 16]), ([8, 17], [8, 17]), ([18, 17, 0, 1, 2, 3, 4, 5, 6, 7, 8, 9, 10, 11, 12, 13, 14, 15, 16, 17, 18], [18])])
def does.B10 : List Nat := [0, 0, 1, 5, 15, 31, 0, 64, 255, 0, 0, 512, 2560, 7680, 15872, 0, 32768, 131071, 262143, 524287]
theorem does.tab10 : rtab .any (opsOf Try.f9 10) = does.T10 := by kernel_rfl
theorem does.bits10 : waitsOk does.T10.2 does.B10 = true := by kernel_rfl
set_option maxHeartbeats 8000000 in
set_option maxRecDepth 100000 in
theorem does_drop0 {w : World} {base gw gH gR : Nat} {ord : Int} {M : List It} {c : Nat} {F : Nat → Prop} {p1 p3 : Value} (on rank : Int) (key : Kt) (h : Slot w base gH gR ord M c (M.map pairOf) F) (hW : w.heap[gw]? = some (.cells #[(.pointer (some ⟨gH, 0, none⟩)), p1, (.pointer (some ⟨gR, 0, none⟩)), p3] 29 (0, 0))) (ho : ¬ F gw) (hk : okK key) (hc : c < 4000000000000) (hM : M.length ≤ c) (hb : base ≤ w.heap.size) (hon : bits BinOp.and IntKind.i64 on 1 = 0) :
    Calls Try.prog 9 #[.pointer (some ⟨gw, 0, none⟩), .agg #[.int .i64 3, .int .i64 on, .int .i64 rank, .int .u8 key.1, .int .u8 key.2.1, .int .u8 key.2.2.1, .int .u8 key.2.2.2.1, .int .u8 key.2.2.2.2.1, .int .u8 key.2.2.2.2.2.1, .int .u8 key.2.2.2.2.2.2.1, .int .u8 key.2.2.2.2.2.2.2]] w fun e w' => e = .returned (.bool true) ∧ ∃ F', Slot w' base gH gR ord (M.filter (fun x => decide (x.1 ≠ key))) c ((M.filter (fun x => decide (x.1 ≠ key))).map pairOf) F' ∧ Chg F w w' ∧ ∀ i, F' i → F i ∨ w.heap.size ≤ i := by
  have H := Aside0.mk h
  have HW := Aside0.mk hW
  have HO := Aside0.mk ho
  have HK := Aside0.mk hk
  have HC := Aside0.mk hc
  have HM := Aside0.mk hM
  have HML : Aside0 ((M.map pairOf).length ≤ 4000000000000) := ⟨by rw [List.length_map]; omega⟩
  have HBS := Aside0.mk hb
  have HGW : Aside0 (gw < w.heap.size) := ⟨blk_lt hW⟩
  clear h hW ho hk hc hM hb
  go_enter Try.func9, Try.ntmps9
  go_upto_region 1 with (fail)
  have HOX : Aside0 ((w.alloc (.cells #[.int .i64 3, .int .i64 on, .int .i64 rank, .int .u8 key.1, .int .u8 key.2.1, .int .u8 key.2.2.1, .int .u8 key.2.2.2.1, .int .u8 key.2.2.2.2.1, .int .u8 key.2.2.2.2.2.1, .int .u8 key.2.2.2.2.2.2.1, .int .u8 key.2.2.2.2.2.2.2] 35)).heap[w.heap.size]? = some (.cells #[.int .i64 3, .int .i64 on, .int .i64 rank, .int .u8 key.1, .int .u8 key.2.1, .int .u8 key.2.2.1, .int .u8 key.2.2.2.1, .int .u8 key.2.2.2.2.1, .int .u8 key.2.2.2.2.2.1, .int .u8 key.2.2.2.2.2.2.1, .int .u8 key.2.2.2.2.2.2.2] 35)) := ⟨blk_new _ _⟩
  have HBB : Aside0 (Below w.heap.size w (w.alloc (.cells #[.int .i64 3, .int .i64 on, .int .i64 rank, .int .u8 key.1, .int .u8 key.2.1, .int .u8 key.2.2.1, .int .u8 key.2.2.2.1, .int .u8 key.2.2.2.2.1, .int .u8 key.2.2.2.2.2.1, .int .u8 key.2.2.2.2.2.2.1, .int .u8 key.2.2.2.2.2.2.2] 35))) := ⟨below_alloc (Below.refl _ _) _⟩
  have HS := Aside0.mk (H.out.below HBB.out)
  have HWB := Aside0.mk ((HBB.out.block _ HGW.out).trans HW.out)
  generalize w.alloc (.cells #[.int .i64 3, .int .i64 on, .int .i64 rank, .int .u8 key.1, .int .u8 key.2.1, .int .u8 key.2.2.1, .int .u8 key.2.2.2.1, .int .u8 key.2.2.2.2.1, .int .u8 key.2.2.2.2.2.1, .int .u8 key.2.2.2.2.2.2.1, .int .u8 key.2.2.2.2.2.2.2] 35) = wB at HOX HBB HS HWB ⊢
  have hcO0 : wB.cell? ⟨w.heap.size, 0, none⟩ = some (.int .i64 3) := (blk_cell HOX.out 0).trans rfl
  have hcO1 : wB.cell? ⟨w.heap.size, 1, none⟩ = some (.int .i64 on) := (blk_cell HOX.out 1).trans rfl
  go_wp2_with fail
  refine start_ (n := 20) (S := fun w' => w'.cell? ⟨gw, 0, none⟩ = some ((.pointer (some ⟨gH, 0, none⟩))) ∧ w'.cell? ⟨gw, 2, none⟩ = some ((.pointer (some ⟨gR, 0, none⟩))) ∧ w'.cell? ⟨w.heap.size, 3, none⟩ = some (.int .u8 key.1) ∧ w'.cell? ⟨w.heap.size, 4, none⟩ = some (.int .u8 key.2.1) ∧ w'.cell? ⟨w.heap.size, 5, none⟩ = some (.int .u8 key.2.2.1) ∧ w'.cell? ⟨w.heap.size, 6, none⟩ = some (.int .u8 key.2.2.2.1) ∧ w'.cell? ⟨w.heap.size, 7, none⟩ = some (.int .u8 key.2.2.2.2.1) ∧ w'.cell? ⟨w.heap.size, 8, none⟩ = some (.int .u8 key.2.2.2.2.2.1) ∧ w'.cell? ⟨w.heap.size, 9, none⟩ = some (.int .u8 key.2.2.2.2.2.2.1) ∧ w'.cell? ⟨w.heap.size, 10, none⟩ = some (.int .u8 key.2.2.2.2.2.2.2)) (ds := []) #[false, false, false, false, false, false, false, false, false, false, false, false, false, false, false, false, false, false, false, false] (by kernel_rfl) rfl rfl ⟨(blk_cell HWB.out 0).trans rfl, (blk_cell HWB.out 2).trans rfl, (blk_cell HOX.out 3).trans rfl, (blk_cell HOX.out 4).trans rfl, (blk_cell HOX.out 5).trans rfl, (blk_cell HOX.out 6).trans rfl, (blk_cell HOX.out 7).trans rfl, (blk_cell HOX.out 8).trans rfl, (blk_cell HOX.out 9).trans rfl, (blk_cell HOX.out 10).trans rfl⟩ (fun hHeld => ?_)
  refine with_tabW does.tab10 does.bits10 (fun HT_ HW_ => ?_)
  have HS4 := Aside0.mk (HS.out.below (below_drew (Below.refl _ _)))
  have HWB4 : Aside0 (wB.drew.heap[gw]? = _) := ⟨HWB.out⟩
  have HOX4 : Aside0 (wB.drew.heap[w.heap.size]? = _) := ⟨HOX.out⟩
  have HB4 : Aside0 (Below w.heap.size w wB.drew) := ⟨below_drew HBB.out⟩
  generalize wB.drew = w4 at HS4 HWB4 HOX4 HB4 hHeld ⊢
  have HO4 := HO
  have HX4 : Aside0 (¬ F w.heap.size) := ⟨fun q => by have := (H.out.ge _ q).2; omega⟩
  have HZ4 : Aside0 (base ≤ w4.heap.size) := ⟨Nat.le_trans HBS.out HB4.out.size⟩
  refine pure_ (i := 0) (N := some 81) (v := ?_) (a' := ?_) #[true, false, false, false, false, false, false, false, false, false, false, false, false, false, false, false, false, false, false, false] rfl rfl (any_of HT_.out (by kernel_rfl)) (fun _ _ _ h => h) (Or.inl ⟨by rfl, ?_⟩) ?_ ?_
  rotate_left
  · intro w'
    go_simp
    with_reducible rfl
  rotate_left
  · simp only [Act.put, List.setIfInBounds_toArray, List.set_cons_zero, List.set_cons_succ, i64_w, i32_w]
    rfl
  refine pure_ (i := 1) (N := some 82) (v := ?_) (a' := ?_) #[true, true, false, false, false, false, false, false, false, false, false, false, false, false, false, false, false, false, false, false] rfl rfl (any_of HT_.out (by kernel_rfl)) (fun _ _ _ h => h) (Or.inl ⟨by rfl, ?_⟩) ?_ ?_
  rotate_left
  · intro w'
    go_simp
    with_reducible rfl
  rotate_left
  · simp only [Act.put, List.setIfInBounds_toArray, List.set_cons_zero, List.set_cons_succ, i64_w, i32_w]
    rfl
  refine pure_ (i := 2) (N := some 83) (v := ?_) (a' := ?_) #[true, true, true, false, false, false, false, false, false, false, false, false, false, false, false, false, false, false, false, false] rfl rfl (any_of HT_.out (by kernel_rfl)) (fun _ _ _ h => h) (Or.inl ⟨by rfl, ?_⟩) ?_ ?_
  rotate_left
  · intro w'
    go_simp
    with_reducible rfl
  rotate_left
  · simp only [Act.put, List.setIfInBounds_toArray, List.set_cons_zero, List.set_cons_succ, i64_w, i32_w]
    rfl
  refine pure_ (i := 3) (N := some 84) (v := ?_) (a' := ?_) #[true, true, true, true, false, false, false, false, false, false, false, false, false, false, false, false, false, false, false, false] rfl rfl (any_of HT_.out (by kernel_rfl)) (fun _ _ _ h => h) (Or.inl ⟨by rfl, ?_⟩) ?_ ?_
  rotate_left
  · intro w'
    go_simp
    with_reducible rfl
  rotate_left
  · simp only [Act.put, List.setIfInBounds_toArray, List.set_cons_zero, List.set_cons_succ, i64_w, i32_w]
    rfl
  refine pure_ (i := 4) (N := some 85) (v := ?_) (a' := ?_) #[true, true, true, true, true, false, false, false, false, false, false, false, false, false, false, false, false, false, false, false] rfl rfl (any_of HT_.out (by kernel_rfl)) (fun _ _ _ h => h) (Or.inl ⟨by rfl, ?_⟩) ?_ ?_
  rotate_left
  · intro w'
    go_simp
    with_reducible rfl
  rotate_left
  · simp only [Act.put, List.setIfInBounds_toArray, List.set_cons_zero, List.set_cons_succ, i64_w, i32_w]
    rfl
  refine pure_ (i := 6) (N := some 87) (v := ?_) (a' := ?_) #[true, true, true, true, true, false, true, false, false, false, false, false, false, false, false, false, false, false, false, false] rfl rfl (any_of HT_.out (by kernel_rfl)) (fun _ _ _ h => h) (Or.inl ⟨by rfl, ?_⟩) ?_ ?_
  rotate_left
  · intro w'
    go_simp
    with_reducible rfl
  rotate_left
  · simp only [Act.put, List.setIfInBounds_toArray, List.set_cons_zero, List.set_cons_succ, i64_w, i32_w]
    rfl
  refine pure_ (i := 9) (N := some 90) (v := ?_) (a' := ?_) #[true, true, true, true, true, false, true, false, false, true, false, false, false, false, false, false, false, false, false, false] rfl rfl (any_of HT_.out (by kernel_rfl)) (fun _ _ _ h => h) (Or.inl ⟨by rfl, ?_⟩) ?_ ?_
  rotate_left
  · intro w'
    go_simp
    with_reducible rfl
  rotate_left
  · simp only [Act.put, List.setIfInBounds_toArray, List.set_cons_zero, List.set_cons_succ, i64_w, i32_w]
    rfl
  refine pure_ (i := 10) (N := some 91) (v := ?_) (a' := ?_) #[true, true, true, true, true, false, true, false, false, true, true, false, false, false, false, false, false, false, false, false] rfl rfl (any_of HT_.out (by kernel_rfl)) (fun _ _ _ h => h) (Or.inl ⟨by rfl, ?_⟩) ?_ ?_
  rotate_left
  · intro w'
    go_simp
    with_reducible rfl
  rotate_left
  · simp only [Act.put, List.setIfInBounds_toArray, List.set_cons_zero, List.set_cons_succ, i64_w, i32_w]
    rfl
  refine pure_ (i := 11) (N := some 92) (v := ?_) (a' := ?_) #[true, true, true, true, true, false, true, false, false, true, true, true, false, false, false, false, false, false, false, false] rfl rfl (any_of HT_.out (by kernel_rfl)) (fun _ _ _ h => h) (Or.inl ⟨by rfl, ?_⟩) ?_ ?_
  rotate_left
  · intro w'
    go_simp
    with_reducible rfl
  rotate_left
  · simp only [Act.put, List.setIfInBounds_toArray, List.set_cons_zero, List.set_cons_succ, i64_w, i32_w]
    rfl
  refine pure_ (i := 12) (N := some 93) (v := ?_) (a' := ?_) #[true, true, true, true, true, false, true, false, false, true, true, true, true, false, false, false, false, false, false, false] rfl rfl (any_of HT_.out (by kernel_rfl)) (fun _ _ _ h => h) (Or.inl ⟨by rfl, ?_⟩) ?_ ?_
  rotate_left
  · intro w'
    go_simp
    with_reducible rfl
  rotate_left
  · simp only [Act.put, List.setIfInBounds_toArray, List.set_cons_zero, List.set_cons_succ, i64_w, i32_w]
    rfl
  refine pure_ (i := 13) (N := some 94) (v := ?_) (a' := ?_) #[true, true, true, true, true, false, true, false, false, true, true, true, true, true, false, false, false, false, false, false] rfl rfl (any_of HT_.out (by kernel_rfl)) (fun _ _ _ h => h) (Or.inl ⟨by rfl, ?_⟩) ?_ ?_
  rotate_left
  · intro w'
    go_simp
    with_reducible rfl
  rotate_left
  · simp only [Act.put, List.setIfInBounds_toArray, List.set_cons_zero, List.set_cons_succ, i64_w, i32_w]
    rfl
  refine pure_ (i := 15) (N := some 96) (v := ?_) (a' := ?_) #[true, true, true, true, true, false, true, false, false, true, true, true, true, true, false, true, false, false, false, false] rfl rfl (any_of HT_.out (by kernel_rfl)) (fun _ _ _ h => h) (Or.inl ⟨by rfl, ?_⟩) ?_ ?_
  rotate_left
  · intro w'
    go_simp
    with_reducible rfl
  rotate_left
  · simp only [Act.put, List.setIfInBounds_toArray, List.set_cons_zero, List.set_cons_succ, i64_w, i32_w]
    rfl
  refine take_ (i := 5) (N := some 86) (v := ?_) (a' := ?_) #[true, true, true, true, true, true, true, false, false, true, true, true, true, true, false, true, false, false, false, false] rfl rfl (take_ofW HT_.out HW_.out (by kernel_rfl)) (fun _ _ _ h => h) (Or.inl ⟨by rfl, ?_⟩) hHeld ?_ ?_
  rotate_left
  · rintro w' ⟨s0, s1, s2, s3, s4, s5, s6, s7, s8, s9⟩
    go_simp
    with_reducible rfl
  rotate_left
  · simp only [Act.put, List.setIfInBounds_toArray, List.set_cons_zero, List.set_cons_succ, i64_w, i32_w]
    rfl
  refine take_ (i := 7) (N := some 88) (v := ?_) (a' := ?_) #[true, true, true, true, true, true, true, true, false, true, true, true, true, true, false, true, false, false, false, false] rfl rfl (take_ofW HT_.out HW_.out (by kernel_rfl)) (fun _ _ _ h => h) (Or.inl ⟨by rfl, ?_⟩) hHeld ?_ ?_
  rotate_left
  · rintro w' ⟨s0, s1, s2, s3, s4, s5, s6, s7, s8, s9⟩
    go_simp
    with_reducible rfl
  rotate_left
  · simp only [Act.put, List.setIfInBounds_toArray, List.set_cons_zero, List.set_cons_succ, i64_w, i32_w]
    rfl
  refine take_ (i := 14) (N := some 95) (v := ?_) (a' := ?_) #[true, true, true, true, true, true, true, true, false, true, true, true, true, true, true, true, false, false, false, false] rfl rfl (take_ofW HT_.out HW_.out (by kernel_rfl)) (fun _ _ _ h => h) (Or.inl ⟨by rfl, ?_⟩) hHeld ?_ ?_
  rotate_left
  · rintro w' ⟨s0, s1, s2, s3, s4, s5, s6, s7, s8, s9⟩
    go_simp
    with_reducible rfl
  rotate_left
  · simp only [Act.put, List.setIfInBounds_toArray, List.set_cons_zero, List.set_cons_succ, i64_w, i32_w]
    rfl
  refine take_ (i := 16) (N := some 97) (v := ?_) (a' := ?_) #[true, true, true, true, true, true, true, true, false, true, true, true, true, true, true, true, true, false, false, false] rfl rfl (take_ofW HT_.out HW_.out (by kernel_rfl)) (fun _ _ _ h => h) (Or.inl ⟨by rfl, ?_⟩) hHeld ?_ ?_
  rotate_left
  · rintro w' ⟨s0, s1, s2, s3, s4, s5, s6, s7, s8, s9⟩
    go_simp
    with_reducible rfl
  rotate_left
  · simp only [Act.put, List.setIfInBounds_toArray, List.set_cons_zero, List.set_cons_succ, i64_w, i32_w]
    rfl
  refine one_ (i := 8) (N := some 89) #[true, true, true, true, true, true, true, true, true, true, true, true, true, true, true, true, true, false, false, false] rfl rfl (one_of HT_.out (by kernel_rfl)) (by decide) (fun K hK => ?_)
  refine goes_ Try.func34 (by kernel_rfl) rfl #[.pointer (some ⟨gH, 0, none⟩), .agg #[.int .u8 key.1, .int .u8 key.2.1, .int .u8 key.2.2.1, .int .u8 key.2.2.2.1, .int .u8 key.2.2.2.2.1, .int .u8 key.2.2.2.2.2.1, .int .u8 key.2.2.2.2.2.2.1, .int .u8 key.2.2.2.2.2.2.2]] (by rfl) rfl rfl (by simp only [List.map_toArray, List.map_cons, List.map_nil]; rfl) ?_
  with_reducible refine (hdrop_slot HS4.out key HK.out HC.out HM.out).mono ?_
  rintro e w5 ⟨rfl, F5, hs, hc, hf⟩
  refine ⟨_, rfl, ?_⟩
  have HS5 := Aside0.mk hs
  have HC5 := Aside0.mk (And.intro hc hf)
  have HWB5 := Aside0.mk (hc.heap HWB4.out HO4.out)
  have HOX5 := Aside0.mk (hc.heap HOX4.out HX4.out)
  have HO5 : Aside0 (¬ F5 gw) := ⟨fun q => by rcases hf _ q with q | q; exact HO4.out q; have := blk_lt HWB4.out; omega⟩
  have HX5 : Aside0 (¬ F5 w.heap.size) := ⟨fun q => by rcases hf _ q with q | q; exact HX4.out q; have := blk_lt HOX4.out; omega⟩
  have HZ5 : Aside0 (base ≤ w5.heap.size) := ⟨Nat.le_trans HZ4.out hc.size⟩
  clear hs hc hf
  refine hK.out _ _ ⟨(blk_cell HWB5.out 0).trans rfl, (blk_cell HWB5.out 2).trans rfl, (blk_cell HOX5.out 3).trans rfl, (blk_cell HOX5.out 4).trans rfl, (blk_cell HOX5.out 5).trans rfl, (blk_cell HOX5.out 6).trans rfl, (blk_cell HOX5.out 7).trans rfl, (blk_cell HOX5.out 8).trans rfl, (blk_cell HOX5.out 9).trans rfl, (blk_cell HOX5.out 10).trans rfl⟩ (fun hHeld => ?_)
  clear hK K
  refine norm_ (a' := ?_) ?_ ?_
  rotate_left
  · show Act.put _ (some 89) _ = _
    simp only [Act.put, List.setIfInBounds_toArray, List.set_cons_zero, List.set_cons_succ, i64_w, i32_w]
    rfl
  refine one_ (i := 17) (N := some 98) #[true, true, true, true, true, true, true, true, true, true, true, true, true, true, true, true, true, true, false, false] rfl rfl (one_of HT_.out (by kernel_rfl)) (by decide) (fun K hK => ?_)
  refine goes_ Try.func35 (by kernel_rfl) rfl #[.pointer (some ⟨gR, 0, none⟩), .agg #[.int .u8 key.1, .int .u8 key.2.1, .int .u8 key.2.2.1, .int .u8 key.2.2.2.1, .int .u8 key.2.2.2.2.1, .int .u8 key.2.2.2.2.2.1, .int .u8 key.2.2.2.2.2.2.1, .int .u8 key.2.2.2.2.2.2.2]] (by rfl) rfl rfl (by simp only [List.map_toArray, List.map_cons, List.map_nil]; rfl) ?_
  with_reducible refine (rdrop_slot HS5.out key HML.out HZ5.out).mono ?_
  rintro e w6 ⟨rfl, F6, hs, hc, hf⟩
  refine ⟨_, rfl, ?_⟩
  have HS6 := Aside0.mk hs
  have HC6 := Aside0.mk (And.intro hc hf)
  have HWB6 := Aside0.mk (hc.heap HWB5.out HO5.out)
  have HOX6 := Aside0.mk (hc.heap HOX5.out HX5.out)
  have HO6 : Aside0 (¬ F6 gw) := ⟨fun q => by rcases hf _ q with q | q; exact HO5.out q; have := blk_lt HWB5.out; omega⟩
  have HX6 : Aside0 (¬ F6 w.heap.size) := ⟨fun q => by rcases hf _ q with q | q; exact HX5.out q; have := blk_lt HOX5.out; omega⟩
  have HZ6 : Aside0 (base ≤ w6.heap.size) := ⟨Nat.le_trans HZ5.out hc.size⟩
  clear hs hc hf
  refine hK.out _ _ ⟨(blk_cell HWB6.out 0).trans rfl, (blk_cell HWB6.out 2).trans rfl, (blk_cell HOX6.out 3).trans rfl, (blk_cell HOX6.out 4).trans rfl, (blk_cell HOX6.out 5).trans rfl, (blk_cell HOX6.out 6).trans rfl, (blk_cell HOX6.out 7).trans rfl, (blk_cell HOX6.out 8).trans rfl, (blk_cell HOX6.out 9).trans rfl, (blk_cell HOX6.out 10).trans rfl⟩ (fun hHeld => ?_)
  clear hK K
  refine norm_ (a' := ?_) ?_ ?_
  rotate_left
  · show Act.put _ (some 98) _ = _
    simp only [Act.put, List.setIfInBounds_toArray, List.set_cons_zero, List.set_cons_succ, i64_w, i32_w]
    rfl
  refine pure_ (i := 18) (N := some 99) (v := ?_) (a' := ?_) #[true, true, true, true, true, true, true, true, true, true, true, true, true, true, true, true, true, true, true, false] rfl rfl (any_of HT_.out (by kernel_rfl)) (fun _ _ _ h => h) (Or.inl ⟨by rfl, ?_⟩) ?_ ?_
  rotate_left
  · intro w'
    go_simp
    with_reducible rfl
  rotate_left
  · simp only [Act.put, List.setIfInBounds_toArray, List.set_cons_zero, List.set_cons_succ, i64_w, i32_w]
    rfl
  refine pure_ (i := 19) (N := some 4) (v := ?_) (a' := ?_) #[true, true, true, true, true, true, true, true, true, true, true, true, true, true, true, true, true, true, true, true] rfl rfl (any_of HT_.out (by kernel_rfl)) (fun _ _ _ h => h) (Or.inl ⟨by rfl, ?_⟩) ?_ ?_
  rotate_left
  · intro w'
    go_simp
    with_reducible rfl
  rotate_left
  · simp only [Act.put, List.setIfInBounds_toArray, List.set_cons_zero, List.set_cons_succ, i64_w, i32_w]
    rfl
  refine done_ (done_of HT_.out (by kernel_rfl)) ?_
  have HS7 : Aside0 (Slot w6 base gH gR ord (M.filter (fun x => decide (x.1 ≠ key))) c ((M.filter (fun x => decide (x.1 ≠ key))).map pairOf) F6) := ⟨drop_map H.out.keysM key ▸ HS6.out⟩
  have HC7 : Aside0 (Chg F w4 w6 ∧ ∀ i, F6 i → F i ∨ w4.heap.size ≤ i) := ⟨HC5.out.1.then HC6.out.1 HC5.out.2, fun i q => by rcases HC6.out.2 i q with q | q; exact HC5.out.2 i q; exact Or.inr (Nat.le_trans HC5.out.1.size q)⟩
  try clear hHeld
  go_wp2
  go_ret
  exact ⟨by first | rfl | (simp; done) | (rw [idxR_map]; simp; done) | simp [idxR_map], F6, HS7.out, (Chg.of_below HB4.out).trans HC7.out.1, fun i q => by rcases HC7.out.2 i q with q | q; exact Or.inl q; exact Or.inr (Nat.le_trans HB4.out.size q)⟩
set_option maxHeartbeats 8000000 in
set_option maxRecDepth 100000 in
theorem does_drop1 {w : World} {base gw gH gR : Nat} {ord : Int} {M : List It} {c : Nat} {F : Nat → Prop} {p0 p2 : Value} (on rank : Int) (key : Kt) (h : Slot w base gH gR ord M c (M.map pairOf) F) (hW : w.heap[gw]? = some (.cells #[p0, (.pointer (some ⟨gH, 0, none⟩)), p2, (.pointer (some ⟨gR, 0, none⟩))] 29 (0, 0))) (ho : ¬ F gw) (hk : okK key) (hc : c < 4000000000000) (hM : M.length ≤ c) (hb : base ≤ w.heap.size) (hon : bits BinOp.and IntKind.i64 on 1 = 1) :
    Calls Try.prog 9 #[.pointer (some ⟨gw, 0, none⟩), .agg #[.int .i64 3, .int .i64 on, .int .i64 rank, .int .u8 key.1, .int .u8 key.2.1, .int .u8 key.2.2.1, .int .u8 key.2.2.2.1, .int .u8 key.2.2.2.2.1, .int .u8 key.2.2.2.2.2.1, .int .u8 key.2.2.2.2.2.2.1, .int .u8 key.2.2.2.2.2.2.2]] w fun e w' => e = .returned (.bool true) ∧ ∃ F', Slot w' base gH gR ord (M.filter (fun x => decide (x.1 ≠ key))) c ((M.filter (fun x => decide (x.1 ≠ key))).map pairOf) F' ∧ Chg F w w' ∧ ∀ i, F' i → F i ∨ w.heap.size ≤ i := by
  have H := Aside0.mk h
  have HW := Aside0.mk hW
  have HO := Aside0.mk ho
  have HK := Aside0.mk hk
  have HC := Aside0.mk hc
  have HM := Aside0.mk hM
  have HML : Aside0 ((M.map pairOf).length ≤ 4000000000000) := ⟨by rw [List.length_map]; omega⟩
  have HBS := Aside0.mk hb
  have HGW : Aside0 (gw < w.heap.size) := ⟨blk_lt hW⟩
  clear h hW ho hk hc hM hb
  go_enter Try.func9, Try.ntmps9
  go_upto_region 1 with (fail)
  have HOX : Aside0 ((w.alloc (.cells #[.int .i64 3, .int .i64 on, .int .i64 rank, .int .u8 key.1, .int .u8 key.2.1, .int .u8 key.2.2.1, .int .u8 key.2.2.2.1, .int .u8 key.2.2.2.2.1, .int .u8 key.2.2.2.2.2.1, .int .u8 key.2.2.2.2.2.2.1, .int .u8 key.2.2.2.2.2.2.2] 35)).heap[w.heap.size]? = some (.cells #[.int .i64 3, .int .i64 on, .int .i64 rank, .int .u8 key.1, .int .u8 key.2.1, .int .u8 key.2.2.1, .int .u8 key.2.2.2.1, .int .u8 key.2.2.2.2.1, .int .u8 key.2.2.2.2.2.1, .int .u8 key.2.2.2.2.2.2.1, .int .u8 key.2.2.2.2.2.2.2] 35)) := ⟨blk_new _ _⟩
  have HBB : Aside0 (Below w.heap.size w (w.alloc (.cells #[.int .i64 3, .int .i64 on, .int .i64 rank, .int .u8 key.1, .int .u8 key.2.1, .int .u8 key.2.2.1, .int .u8 key.2.2.2.1, .int .u8 key.2.2.2.2.1, .int .u8 key.2.2.2.2.2.1, .int .u8 key.2.2.2.2.2.2.1, .int .u8 key.2.2.2.2.2.2.2] 35))) := ⟨below_alloc (Below.refl _ _) _⟩
  have HS := Aside0.mk (H.out.below HBB.out)
  have HWB := Aside0.mk ((HBB.out.block _ HGW.out).trans HW.out)
  generalize w.alloc (.cells #[.int .i64 3, .int .i64 on, .int .i64 rank, .int .u8 key.1, .int .u8 key.2.1, .int .u8 key.2.2.1, .int .u8 key.2.2.2.1, .int .u8 key.2.2.2.2.1, .int .u8 key.2.2.2.2.2.1, .int .u8 key.2.2.2.2.2.2.1, .int .u8 key.2.2.2.2.2.2.2] 35) = wB at HOX HBB HS HWB ⊢
  have hcO0 : wB.cell? ⟨w.heap.size, 0, none⟩ = some (.int .i64 3) := (blk_cell HOX.out 0).trans rfl
  have hcO1 : wB.cell? ⟨w.heap.size, 1, none⟩ = some (.int .i64 on) := (blk_cell HOX.out 1).trans rfl
  go_wp2_with fail
  refine start_ (n := 20) (S := fun w' => w'.cell? ⟨gw, 1, none⟩ = some ((.pointer (some ⟨gH, 0, none⟩))) ∧ w'.cell? ⟨gw, 3, none⟩ = some ((.pointer (some ⟨gR, 0, none⟩))) ∧ w'.cell? ⟨w.heap.size, 3, none⟩ = some (.int .u8 key.1) ∧ w'.cell? ⟨w.heap.size, 4, none⟩ = some (.int .u8 key.2.1) ∧ w'.cell? ⟨w.heap.size, 5, none⟩ = some (.int .u8 key.2.2.1) ∧ w'.cell? ⟨w.heap.size, 6, none⟩ = some (.int .u8 key.2.2.2.1) ∧ w'.cell? ⟨w.heap.size, 7, none⟩ = some (.int .u8 key.2.2.2.2.1) ∧ w'.cell? ⟨w.heap.size, 8, none⟩ = some (.int .u8 key.2.2.2.2.2.1) ∧ w'.cell? ⟨w.heap.size, 9, none⟩ = some (.int .u8 key.2.2.2.2.2.2.1) ∧ w'.cell? ⟨w.heap.size, 10, none⟩ = some (.int .u8 key.2.2.2.2.2.2.2)) (ds := []) #[false, false, false, false, false, false, false, false, false, false, false, false, false, false, false, false, false, false, false, false] (by kernel_rfl) rfl rfl ⟨(blk_cell HWB.out 1).trans rfl, (blk_cell HWB.out 3).trans rfl, (blk_cell HOX.out 3).trans rfl, (blk_cell HOX.out 4).trans rfl, (blk_cell HOX.out 5).trans rfl, (blk_cell HOX.out 6).trans rfl, (blk_cell HOX.out 7).trans rfl, (blk_cell HOX.out 8).trans rfl, (blk_cell HOX.out 9).trans rfl, (blk_cell HOX.out 10).trans rfl⟩ (fun hHeld => ?_)
  refine with_tabW does.tab10 does.bits10 (fun HT_ HW_ => ?_)
  have HS4 := Aside0.mk (HS.out.below (below_drew (Below.refl _ _)))
  have HWB4 : Aside0 (wB.drew.heap[gw]? = _) := ⟨HWB.out⟩
  have HOX4 : Aside0 (wB.drew.heap[w.heap.size]? = _) := ⟨HOX.out⟩
  have HB4 : Aside0 (Below w.heap.size w wB.drew) := ⟨below_drew HBB.out⟩
  generalize wB.drew = w4 at HS4 HWB4 HOX4 HB4 hHeld ⊢
  have HO4 := HO
  have HX4 : Aside0 (¬ F w.heap.size) := ⟨fun q => by have := (H.out.ge _ q).2; omega⟩
  have HZ4 : Aside0 (base ≤ w4.heap.size) := ⟨Nat.le_trans HBS.out HB4.out.size⟩
  refine pure_ (i := 0) (N := some 81) (v := ?_) (a' := ?_) #[true, false, false, false, false, false, false, false, false, false, false, false, false, false, false, false, false, false, false, false] rfl rfl (any_of HT_.out (by kernel_rfl)) (fun _ _ _ h => h) (Or.inl ⟨by rfl, ?_⟩) ?_ ?_
  rotate_left
  · intro w'
    go_simp
    with_reducible rfl
  rotate_left
  · simp only [Act.put, List.setIfInBounds_toArray, List.set_cons_zero, List.set_cons_succ, i64_w, i32_w]
    rfl
  refine pure_ (i := 1) (N := some 82) (v := ?_) (a' := ?_) #[true, true, false, false, false, false, false, false, false, false, false, false, false, false, false, false, false, false, false, false] rfl rfl (any_of HT_.out (by kernel_rfl)) (fun _ _ _ h => h) (Or.inl ⟨by rfl, ?_⟩) ?_ ?_
  rotate_left
  · intro w'
    go_simp
    with_reducible rfl
  rotate_left
  · simp only [Act.put, List.setIfInBounds_toArray, List.set_cons_zero, List.set_cons_succ, i64_w, i32_w]
    rfl
  refine pure_ (i := 2) (N := some 83) (v := ?_) (a' := ?_) #[true, true, true, false, false, false, false, false, false, false, false, false, false, false, false, false, false, false, false, false] rfl rfl (any_of HT_.out (by kernel_rfl)) (fun _ _ _ h => h) (Or.inl ⟨by rfl, ?_⟩) ?_ ?_
  rotate_left
  · intro w'
    go_simp
    with_reducible rfl
  rotate_left
  · simp only [Act.put, List.setIfInBounds_toArray, List.set_cons_zero, List.set_cons_succ, i64_w, i32_w]
    rfl
  refine pure_ (i := 3) (N := some 84) (v := ?_) (a' := ?_) #[true, true, true, true, false, false, false, false, false, false, false, false, false, false, false, false, false, false, false, false] rfl rfl (any_of HT_.out (by kernel_rfl)) (fun _ _ _ h => h) (Or.inl ⟨by rfl, ?_⟩) ?_ ?_
  rotate_left
  · intro w'
    go_simp
    with_reducible rfl
  rotate_left
  · simp only [Act.put, List.setIfInBounds_toArray, List.set_cons_zero, List.set_cons_succ, i64_w, i32_w]
    rfl
  refine pure_ (i := 4) (N := some 85) (v := ?_) (a' := ?_) #[true, true, true, true, true, false, false, false, false, false, false, false, false, false, false, false, false, false, false, false] rfl rfl (any_of HT_.out (by kernel_rfl)) (fun _ _ _ h => h) (Or.inl ⟨by rfl, ?_⟩) ?_ ?_
  rotate_left
  · intro w'
    go_simp
    with_reducible rfl
  rotate_left
  · simp only [Act.put, List.setIfInBounds_toArray, List.set_cons_zero, List.set_cons_succ, i64_w, i32_w]
    rfl
  refine pure_ (i := 6) (N := some 87) (v := ?_) (a' := ?_) #[true, true, true, true, true, false, true, false, false, false, false, false, false, false, false, false, false, false, false, false] rfl rfl (any_of HT_.out (by kernel_rfl)) (fun _ _ _ h => h) (Or.inl ⟨by rfl, ?_⟩) ?_ ?_
  rotate_left
  · intro w'
    go_simp
    with_reducible rfl
  rotate_left
  · simp only [Act.put, List.setIfInBounds_toArray, List.set_cons_zero, List.set_cons_succ, i64_w, i32_w]
    rfl
  refine pure_ (i := 9) (N := some 90) (v := ?_) (a' := ?_) #[true, true, true, true, true, false, true, false, false, true, false, false, false, false, false, false, false, false, false, false] rfl rfl (any_of HT_.out (by kernel_rfl)) (fun _ _ _ h => h) (Or.inl ⟨by rfl, ?_⟩) ?_ ?_
  rotate_left
  · intro w'
    go_simp
    with_reducible rfl
  rotate_left
  · simp only [Act.put, List.setIfInBounds_toArray, List.set_cons_zero, List.set_cons_succ, i64_w, i32_w]
    rfl
  refine pure_ (i := 10) (N := some 91) (v := ?_) (a' := ?_) #[true, true, true, true, true, false, true, false, false, true, true, false, false, false, false, false, false, false, false, false] rfl rfl (any_of HT_.out (by kernel_rfl)) (fun _ _ _ h => h) (Or.inl ⟨by rfl, ?_⟩) ?_ ?_
  rotate_left
  · intro w'
    go_simp
    with_reducible rfl
  rotate_left
  · simp only [Act.put, List.setIfInBounds_toArray, List.set_cons_zero, List.set_cons_succ, i64_w, i32_w]
    rfl
  refine pure_ (i := 11) (N := some 92) (v := ?_) (a' := ?_) #[true, true, true, true, true, false, true, false, false, true, true, true, false, false, false, false, false, false, false, false] rfl rfl (any_of HT_.out (by kernel_rfl)) (fun _ _ _ h => h) (Or.inl ⟨by rfl, ?_⟩) ?_ ?_
  rotate_left
  · intro w'
    go_simp
    with_reducible rfl
  rotate_left
  · simp only [Act.put, List.setIfInBounds_toArray, List.set_cons_zero, List.set_cons_succ, i64_w, i32_w]
    rfl
  refine pure_ (i := 12) (N := some 93) (v := ?_) (a' := ?_) #[true, true, true, true, true, false, true, false, false, true, true, true, true, false, false, false, false, false, false, false] rfl rfl (any_of HT_.out (by kernel_rfl)) (fun _ _ _ h => h) (Or.inl ⟨by rfl, ?_⟩) ?_ ?_
  rotate_left
  · intro w'
    go_simp
    with_reducible rfl
  rotate_left
  · simp only [Act.put, List.setIfInBounds_toArray, List.set_cons_zero, List.set_cons_succ, i64_w, i32_w]
    rfl
  refine pure_ (i := 13) (N := some 94) (v := ?_) (a' := ?_) #[true, true, true, true, true, false, true, false, false, true, true, true, true, true, false, false, false, false, false, false] rfl rfl (any_of HT_.out (by kernel_rfl)) (fun _ _ _ h => h) (Or.inl ⟨by rfl, ?_⟩) ?_ ?_
  rotate_left
  · intro w'
    go_simp
    with_reducible rfl
  rotate_left
  · simp only [Act.put, List.setIfInBounds_toArray, List.set_cons_zero, List.set_cons_succ, i64_w, i32_w]
    rfl
  refine pure_ (i := 15) (N := some 96) (v := ?_) (a' := ?_) #[true, true, true, true, true, false, true, false, false, true, true, true, true, true, false, true, false, false, false, false] rfl rfl (any_of HT_.out (by kernel_rfl)) (fun _ _ _ h => h) (Or.inl ⟨by rfl, ?_⟩) ?_ ?_
  rotate_left
  · intro w'
    go_simp
    with_reducible rfl
  rotate_left
  · simp only [Act.put, List.setIfInBounds_toArray, List.set_cons_zero, List.set_cons_succ, i64_w, i32_w]
    rfl
  refine take_ (i := 5) (N := some 86) (v := ?_) (a' := ?_) #[true, true, true, true, true, true, true, false, false, true, true, true, true, true, false, true, false, false, false, false] rfl rfl (take_ofW HT_.out HW_.out (by kernel_rfl)) (fun _ _ _ h => h) (Or.inl ⟨by rfl, ?_⟩) hHeld ?_ ?_
  rotate_left
  · rintro w' ⟨s0, s1, s2, s3, s4, s5, s6, s7, s8, s9⟩
    go_simp
    with_reducible rfl
  rotate_left
  · simp only [Act.put, List.setIfInBounds_toArray, List.set_cons_zero, List.set_cons_succ, i64_w, i32_w]
    rfl
  refine take_ (i := 7) (N := some 88) (v := ?_) (a' := ?_) #[true, true, true, true, true, true, true, true, false, true, true, true, true, true, false, true, false, false, false, false] rfl rfl (take_ofW HT_.out HW_.out (by kernel_rfl)) (fun _ _ _ h => h) (Or.inl ⟨by rfl, ?_⟩) hHeld ?_ ?_
  rotate_left
  · rintro w' ⟨s0, s1, s2, s3, s4, s5, s6, s7, s8, s9⟩
    go_simp
    with_reducible rfl
  rotate_left
  · simp only [Act.put, List.setIfInBounds_toArray, List.set_cons_zero, List.set_cons_succ, i64_w, i32_w]
    rfl
  refine take_ (i := 14) (N := some 95) (v := ?_) (a' := ?_) #[true, true, true, true, true, true, true, true, false, true, true, true, true, true, true, true, false, false, false, false] rfl rfl (take_ofW HT_.out HW_.out (by kernel_rfl)) (fun _ _ _ h => h) (Or.inl ⟨by rfl, ?_⟩) hHeld ?_ ?_
  rotate_left
  · rintro w' ⟨s0, s1, s2, s3, s4, s5, s6, s7, s8, s9⟩
    go_simp
    with_reducible rfl
  rotate_left
  · simp only [Act.put, List.setIfInBounds_toArray, List.set_cons_zero, List.set_cons_succ, i64_w, i32_w]
    rfl
  refine take_ (i := 16) (N := some 97) (v := ?_) (a' := ?_) #[true, true, true, true, true, true, true, true, false, true, true, true, true, true, true, true, true, false, false, false] rfl rfl (take_ofW HT_.out HW_.out (by kernel_rfl)) (fun _ _ _ h => h) (Or.inl ⟨by rfl, ?_⟩) hHeld ?_ ?_
  rotate_left
  · rintro w' ⟨s0, s1, s2, s3, s4, s5, s6, s7, s8, s9⟩
    go_simp
    with_reducible rfl
  rotate_left
  · simp only [Act.put, List.setIfInBounds_toArray, List.set_cons_zero, List.set_cons_succ, i64_w, i32_w]
    rfl
  refine one_ (i := 8) (N := some 89) #[true, true, true, true, true, true, true, true, true, true, true, true, true, true, true, true, true, false, false, false] rfl rfl (one_of HT_.out (by kernel_rfl)) (by decide) (fun K hK => ?_)
  refine goes_ Try.func34 (by kernel_rfl) rfl #[.pointer (some ⟨gH, 0, none⟩), .agg #[.int .u8 key.1, .int .u8 key.2.1, .int .u8 key.2.2.1, .int .u8 key.2.2.2.1, .int .u8 key.2.2.2.2.1, .int .u8 key.2.2.2.2.2.1, .int .u8 key.2.2.2.2.2.2.1, .int .u8 key.2.2.2.2.2.2.2]] (by rfl) rfl rfl (by simp only [List.map_toArray, List.map_cons, List.map_nil]; rfl) ?_
  with_reducible refine (hdrop_slot HS4.out key HK.out HC.out HM.out).mono ?_
  rintro e w5 ⟨rfl, F5, hs, hc, hf⟩
  refine ⟨_, rfl, ?_⟩
  have HS5 := Aside0.mk hs
  have HC5 := Aside0.mk (And.intro hc hf)
  have HWB5 := Aside0.mk (hc.heap HWB4.out HO4.out)
  have HOX5 := Aside0.mk (hc.heap HOX4.out HX4.out)
  have HO5 : Aside0 (¬ F5 gw) := ⟨fun q => by rcases hf _ q with q | q; exact HO4.out q; have := blk_lt HWB4.out; omega⟩
  have HX5 : Aside0 (¬ F5 w.heap.size) := ⟨fun q => by rcases hf _ q with q | q; exact HX4.out q; have := blk_lt HOX4.out; omega⟩
  have HZ5 : Aside0 (base ≤ w5.heap.size) := ⟨Nat.le_trans HZ4.out hc.size⟩
  clear hs hc hf
  refine hK.out _ _ ⟨(blk_cell HWB5.out 1).trans rfl, (blk_cell HWB5.out 3).trans rfl, (blk_cell HOX5.out 3).trans rfl, (blk_cell HOX5.out 4).trans rfl, (blk_cell HOX5.out 5).trans rfl, (blk_cell HOX5.out 6).trans rfl, (blk_cell HOX5.out 7).trans rfl, (blk_cell HOX5.out 8).trans rfl, (blk_cell HOX5.out 9).trans rfl, (blk_cell HOX5.out 10).trans rfl⟩ (fun hHeld => ?_)
  clear hK K
  refine norm_ (a' := ?_) ?_ ?_
  rotate_left
  · show Act.put _ (some 89) _ = _
    simp only [Act.put, List.setIfInBounds_toArray, List.set_cons_zero, List.set_cons_succ, i64_w, i32_w]
    rfl
  refine one_ (i := 17) (N := some 98) #[true, true, true, true, true, true, true, true, true, true, true, true, true, true, true, true, true, true, false, false] rfl rfl (one_of HT_.out (by kernel_rfl)) (by decide) (fun K hK => ?_)
  refine goes_ Try.func35 (by kernel_rfl) rfl #[.pointer (some ⟨gR, 0, none⟩), .agg #[.int .u8 key.1, .int .u8 key.2.1, .int .u8 key.2.2.1, .int .u8 key.2.2.2.1, .int .u8 key.2.2.2.2.1, .int .u8 key.2.2.2.2.2.1, .int .u8 key.2.2.2.2.2.2.1, .int .u8 key.2.2.2.2.2.2.2]] (by rfl) rfl rfl (by simp only [List.map_toArray, List.map_cons, List.map_nil]; rfl) ?_
  with_reducible refine (rdrop_slot HS5.out key HML.out HZ5.out).mono ?_
  rintro e w6 ⟨rfl, F6, hs, hc, hf⟩
  refine ⟨_, rfl, ?_⟩
  have HS6 := Aside0.mk hs
  have HC6 := Aside0.mk (And.intro hc hf)
  have HWB6 := Aside0.mk (hc.heap HWB5.out HO5.out)
  have HOX6 := Aside0.mk (hc.heap HOX5.out HX5.out)
  have HO6 : Aside0 (¬ F6 gw) := ⟨fun q => by rcases hf _ q with q | q; exact HO5.out q; have := blk_lt HWB5.out; omega⟩
  have HX6 : Aside0 (¬ F6 w.heap.size) := ⟨fun q => by rcases hf _ q with q | q; exact HX5.out q; have := blk_lt HOX5.out; omega⟩
  have HZ6 : Aside0 (base ≤ w6.heap.size) := ⟨Nat.le_trans HZ5.out hc.size⟩
  clear hs hc hf
  refine hK.out _ _ ⟨(blk_cell HWB6.out 1).trans rfl, (blk_cell HWB6.out 3).trans rfl, (blk_cell HOX6.out 3).trans rfl, (blk_cell HOX6.out 4).trans rfl, (blk_cell HOX6.out 5).trans rfl, (blk_cell HOX6.out 6).trans rfl, (blk_cell HOX6.out 7).trans rfl, (blk_cell HOX6.out 8).trans rfl, (blk_cell HOX6.out 9).trans rfl, (blk_cell HOX6.out 10).trans rfl⟩ (fun hHeld => ?_)
  clear hK K
  refine norm_ (a' := ?_) ?_ ?_
  rotate_left
  · show Act.put _ (some 98) _ = _
    simp only [Act.put, List.setIfInBounds_toArray, List.set_cons_zero, List.set_cons_succ, i64_w, i32_w]
    rfl
  refine pure_ (i := 18) (N := some 99) (v := ?_) (a' := ?_) #[true, true, true, true, true, true, true, true, true, true, true, true, true, true, true, true, true, true, true, false] rfl rfl (any_of HT_.out (by kernel_rfl)) (fun _ _ _ h => h) (Or.inl ⟨by rfl, ?_⟩) ?_ ?_
  rotate_left
  · intro w'
    go_simp
    with_reducible rfl
  rotate_left
  · simp only [Act.put, List.setIfInBounds_toArray, List.set_cons_zero, List.set_cons_succ, i64_w, i32_w]
    rfl
  refine pure_ (i := 19) (N := some 4) (v := ?_) (a' := ?_) #[true, true, true, true, true, true, true, true, true, true, true, true, true, true, true, true, true, true, true, true] rfl rfl (any_of HT_.out (by kernel_rfl)) (fun _ _ _ h => h) (Or.inl ⟨by rfl, ?_⟩) ?_ ?_
  rotate_left
  · intro w'
    go_simp
    with_reducible rfl
  rotate_left
  · simp only [Act.put, List.setIfInBounds_toArray, List.set_cons_zero, List.set_cons_succ, i64_w, i32_w]
    rfl
  refine done_ (done_of HT_.out (by kernel_rfl)) ?_
  have HS7 : Aside0 (Slot w6 base gH gR ord (M.filter (fun x => decide (x.1 ≠ key))) c ((M.filter (fun x => decide (x.1 ≠ key))).map pairOf) F6) := ⟨drop_map H.out.keysM key ▸ HS6.out⟩
  have HC7 : Aside0 (Chg F w4 w6 ∧ ∀ i, F6 i → F i ∨ w4.heap.size ≤ i) := ⟨HC5.out.1.then HC6.out.1 HC5.out.2, fun i q => by rcases HC6.out.2 i q with q | q; exact HC5.out.2 i q; exact Or.inr (Nat.le_trans HC5.out.1.size q)⟩
  try clear hHeld
  go_wp2
  go_ret
  exact ⟨by first | rfl | (simp; done) | (rw [idxR_map]; simp; done) | simp [idxR_map], F6, HS7.out, (Chg.of_below HB4.out).trans HC7.out.1, fun i q => by rcases HC7.out.2 i q with q | q; exact Or.inl q; exact Or.inr (Nat.le_trans HB4.out.size q)⟩
end Go.Proofs.Ytibipbfmhbkpiaa.HeapDI
