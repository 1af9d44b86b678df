/- What a heap's methods do: [string, int], lens,first,rank,drop,pop. Conditions: those that stand in each theorem. Written by wip/gen/heap.py. -/
import Derived.Test.YtibipbfmhbkpiaaHeapSIB
namespace Go.Proofs.Ytibipbfmhbkpiaa.HeapSI
open Go.RowKit Go.Proofs.YtibipbfmhbkpiaaW.PrintWords Go.Proofs.YtibipbfmhbkpiaaW.PrintLast Go.Proofs.YtibipbfmhbkpiaaW.PrintMore Go.Proofs.Ytibipbfmhbkpiaa.HeapW Go.Proofs.Ytibipbfmhbkpiaa.HeapP Go.Proofs.Ytibipbfmhbkpiaa.MapAt
set_option linter.unusedVariables false
set_option linter.unusedSimpArgs false
set_option maxHeartbeats 8000000 in
set_option maxRecDepth 100000 in
theorem len_calls (base g : Nat) (fv : Value) (A : Option Addr) (cap b : Nat) (l : List It) (c : Int) (w : World) (h : HAt w base g fv A cap b l c) :
    Calls Try.prog 51 #[.pointer (some ⟨g, 0, none⟩)] w fun e w' => e = .returned (.int .i64 l.length) ∧ w' = w := by
  have hc1 : w.cell? ⟨g, 1, none⟩ = some (.slice A l.length cap) := (blk_cell h.blk 1).trans rfl
  clear h
  go_enter Try.func51, Try.ntmps51
  go_wp2
  go_ret
  exact ⟨rfl, rfl⟩
def first_T3 : Bool × List (List Nat × List Nat) := (true, [([], []), ([0], [0]), ([1], [1]), ([2], [2]), ([3], [3]), ([4], [4]), ([5], [5]), ([], []), ([7], [7]), ([8], [8]), ([9], [9]), ([10], [10]), ([11], [11]), ([12], [12]), ([6, 0, 1, 2, 3, 4, 5, 6], [6]), ([13, 14, 0, 1, 2, 3, 4, 5, 6, 7, 8, 9, 10, 11, 12, 13, 14], [13]), ([15, 0, 1, 2, 3, 4, 5, 6, 7, 8, 9, 10, 11, 12, 13, 14, 15], [])])
def first_B3 : List Nat := [0, 1, 3, 7, 15, 31, 63, 0, 128, 384, 896, 1920, 3968, 8064, 127, 32767, 65535]
theorem first_tab3 : rtab .any (opsOf Try.f71 3) = first_T3 := by kernel_rfl
theorem first_bits3 : waitsOk first_T3.2 first_B3 = true := by kernel_rfl
set_option maxHeartbeats 8000000 in
set_option maxRecDepth 100000 in
theorem first_calls (base g : Nat) (fv : Value) (A : Option Addr) (cap b : Nat) (l : List It) (c : Int) (w : World) (h : HAt w base g fv A cap b l c) (hl : 0 < l.length) :
    Calls Try.prog 71 #[.pointer (some ⟨g, 0, none⟩)] w fun e w' => e = .returned (.tuple #[.string (at_ l 0).1, .int .i64 (at_ l 0).2.1, .bool true]) ∧ Below w.heap.size w w' := by
  obtain ⟨gl, rfl⟩ := h.some hl
  have H := Aside0.mk h
  have hne : ((l.length : Int) == 0) = false := beq_eq_false_iff_ne.mpr (by omega)
  have hll : (0 : Int) < l.length := by omega
  have HS : Aside0 (w.drew.cell? ⟨g, 1, none⟩ = some (.slice (some ⟨gl, 0, none⟩) l.length cap) ∧ w.drew.cell? ⟨gl, 0, none⟩ = some (.string (at_ l 0).1) ∧ w.drew.cell? ⟨gl, 1, none⟩ = some (.int .i64 (at_ l 0).2.1) ∧ w.drew.cell? ⟨gl, 2, none⟩ = some (.int .i64 (at_ l 0).2.2)) := ⟨by
    obtain ⟨i0, i1, i2, _⟩ := item_cells h.row hl
    rw [Nat.zero_mul] at i0 i1 i2
    exact ⟨(blk_cell h.blk 1).trans rfl, i0, i1, i2⟩⟩
  clear h
  go_enter Try.func71, Try.ntmps71
  go_wp2_with fail
  refine (len_calls base g fv _ cap b l c w H.out).mono ?_
  rintro e w1 ⟨rfl, hw_⟩
  replace hw_ := hw_.symm
  subst hw_
  go_wp2_with fail
  refine start_ (n := 17) (S := fun w' => w'.cell? ⟨g, 1, none⟩ = some (.slice (some ⟨gl, 0, none⟩) l.length cap) ∧ w'.cell? ⟨gl, 0, none⟩ = some (.string (at_ l 0).1) ∧ w'.cell? ⟨gl, 1, none⟩ = some (.int .i64 (at_ l 0).2.1) ∧ w'.cell? ⟨gl, 2, none⟩ = some (.int .i64 (at_ l 0).2.2)) (ds := []) #[false, false, false, false, false, false, false, false, false, false, false, false, false, false, false, false, false] (by kernel_rfl) rfl rfl HS.out (fun hHeld => ?_)
  refine with_tabW first_tab3 first_bits3 (fun HT_ HW_ => ?_)
  have HB1 : Aside0 (Below w.heap.size w w.drew) := ⟨below_drew1 (Below.refl _ _)⟩
  generalize w.drew = w1 at HB1 HS hHeld ⊢
  refine pure_ (i := 0) (N := some 10) (v := ?_) (a' := ?_) #[true, false, false, false, false, false, false, false, false, false, false, false, false, false, false, false, false] rfl rfl (any_of HT_.out (by kernel_rfl)) (fun _ _ _ h => h) (Or.inl ⟨by rfl, ?_⟩) ?_ ?_
  rotate_left
  · intro w'
    go_simp
    with_reducible rfl
  rotate_left
  · simp only [Act.put, List.setIfInBounds_toArray, List.set_cons_zero, List.set_cons_succ, i64_w, i32_w]
    rfl
  refine pure_ (i := 1) (N := some 11) (v := ?_) (a' := ?_) #[true, true, false, false, false, false, false, false, false, false, false, false, false, false, false, false, false] rfl rfl (any_of HT_.out (by kernel_rfl)) (fun _ _ _ h => h) (Or.inl ⟨by rfl, ?_⟩) ?_ ?_
  rotate_left
  · intro w'
    go_simp
    with_reducible rfl
  rotate_left
  · simp only [Act.put, List.setIfInBounds_toArray, List.set_cons_zero, List.set_cons_succ, i64_w, i32_w]
    rfl
  refine pure_ (i := 2) (N := some 12) (v := ?_) (a' := ?_) #[true, true, true, false, false, false, false, false, false, false, false, false, false, false, false, false, false] rfl rfl (any_of HT_.out (by kernel_rfl)) (fun _ _ _ h => h) (Or.inl ⟨by rfl, ?_⟩) ?_ ?_
  rotate_left
  · intro w'
    go_simp
    with_reducible rfl
  rotate_left
  · simp only [Act.put, List.setIfInBounds_toArray, List.set_cons_zero, List.set_cons_succ, i64_w, i32_w]
    rfl
  refine take_ (i := 3) (N := some 13) (v := ?_) (a' := ?_) #[true, true, true, true, false, false, false, false, false, false, false, false, false, false, false, false, false] rfl rfl (take_ofW HT_.out HW_.out (by kernel_rfl)) (fun _ _ _ h => h) (Or.inl ⟨by rfl, ?_⟩) hHeld ?_ ?_
  rotate_left
  · rintro w' ⟨s0, s1, s2, s3⟩
    go_simp
    with_reducible rfl
  rotate_left
  · simp only [Act.put, List.setIfInBounds_toArray, List.set_cons_zero, List.set_cons_succ, i64_w, i32_w]
    rfl
  refine pure_ (i := 4) (N := some 14) (v := ?_) (a' := ?_) #[true, true, true, true, true, false, false, false, false, false, false, false, false, false, false, false, false] rfl rfl (any_of HT_.out (by kernel_rfl)) (fun _ _ _ h => h) (Or.inl ⟨by rfl, ?_⟩) ?_ ?_
  rotate_left
  · intro w'
    go_simp
    with_reducible rfl
  rotate_left
  · simp only [Act.put, List.setIfInBounds_toArray, List.set_cons_zero, List.set_cons_succ, i64_w, i32_w]
    rfl
  refine pure_ (i := 5) (N := some 15) (v := ?_) (a' := ?_) #[true, true, true, true, true, true, false, false, false, false, false, false, false, false, false, false, false] rfl rfl (any_of HT_.out (by kernel_rfl)) (fun _ _ _ h => h) (Or.inl ⟨by rfl, ?_⟩) ?_ ?_
  rotate_left
  · intro w'
    go_simp
    with_reducible rfl
  rotate_left
  · simp only [Act.put, List.setIfInBounds_toArray, List.set_cons_zero, List.set_cons_succ, i64_w, i32_w]
    rfl
  refine take_ (i := 6) (N := some 16) (v := ?_) (a' := ?_) #[true, true, true, true, true, true, true, false, false, false, false, false, false, false, false, false, false] rfl rfl (take_ofW HT_.out HW_.out (by kernel_rfl)) (fun _ _ _ h => h) (Or.inl ⟨by rfl, ?_⟩) hHeld ?_ ?_
  rotate_left
  · rintro w' ⟨s0, s1, s2, s3⟩
    go_simp
    with_reducible rfl
  rotate_left
  · simp only [Act.put, List.setIfInBounds_toArray, List.set_cons_zero, List.set_cons_succ, i64_w, i32_w]
    rfl
  refine pure_ (i := 7) (N := some 17) (v := ?_) (a' := ?_) #[true, true, true, true, true, true, true, true, false, false, false, false, false, false, false, false, false] rfl rfl (any_of HT_.out (by kernel_rfl)) (fun _ _ _ h => h) (Or.inl ⟨by rfl, ?_⟩) ?_ ?_
  rotate_left
  · intro w'
    go_simp
    with_reducible rfl
  rotate_left
  · simp only [Act.put, List.setIfInBounds_toArray, List.set_cons_zero, List.set_cons_succ, i64_w, i32_w]
    rfl
  refine pure_ (i := 8) (N := some 18) (v := ?_) (a' := ?_) #[true, true, true, true, true, true, true, true, true, false, false, false, false, false, false, false, false] rfl rfl (any_of HT_.out (by kernel_rfl)) (fun _ _ _ h => h) (Or.inl ⟨by rfl, ?_⟩) ?_ ?_
  rotate_left
  · intro w'
    go_simp
    with_reducible rfl
  rotate_left
  · simp only [Act.put, List.setIfInBounds_toArray, List.set_cons_zero, List.set_cons_succ, i64_w, i32_w]
    rfl
  refine pure_ (i := 9) (N := some 19) (v := ?_) (a' := ?_) #[true, true, true, true, true, true, true, true, true, true, false, false, false, false, false, false, false] rfl rfl (any_of HT_.out (by kernel_rfl)) (fun _ _ _ h => h) (Or.inl ⟨by rfl, ?_⟩) ?_ ?_
  rotate_left
  · intro w'
    go_simp
    with_reducible rfl
  rotate_left
  · simp only [Act.put, List.setIfInBounds_toArray, List.set_cons_zero, List.set_cons_succ, i64_w, i32_w]
    rfl
  refine take_ (i := 10) (N := some 20) (v := ?_) (a' := ?_) #[true, true, true, true, true, true, true, true, true, true, true, false, false, false, false, false, false] rfl rfl (take_ofW HT_.out HW_.out (by kernel_rfl)) (fun _ _ _ h => h) (Or.inl ⟨by rfl, ?_⟩) hHeld ?_ ?_
  rotate_left
  · rintro w' ⟨s0, s1, s2, s3⟩
    go_simp
    with_reducible rfl
  rotate_left
  · simp only [Act.put, List.setIfInBounds_toArray, List.set_cons_zero, List.set_cons_succ, i64_w, i32_w]
    rfl
  refine pure_ (i := 11) (N := some 21) (v := ?_) (a' := ?_) #[true, true, true, true, true, true, true, true, true, true, true, true, false, false, false, false, false] rfl rfl (any_of HT_.out (by kernel_rfl)) (fun _ _ _ h => h) (Or.inl ⟨by rfl, ?_⟩) ?_ ?_
  rotate_left
  · intro w'
    go_simp
    with_reducible rfl
  rotate_left
  · simp only [Act.put, List.setIfInBounds_toArray, List.set_cons_zero, List.set_cons_succ, i64_w, i32_w]
    rfl
  refine pure_ (i := 12) (N := some 22) (v := ?_) (a' := ?_) #[true, true, true, true, true, true, true, true, true, true, true, true, true, false, false, false, false] rfl rfl (any_of HT_.out (by kernel_rfl)) (fun _ _ _ h => h) (Or.inl ⟨by rfl, ?_⟩) ?_ ?_
  rotate_left
  · intro w'
    go_simp
    with_reducible rfl
  rotate_left
  · simp only [Act.put, List.setIfInBounds_toArray, List.set_cons_zero, List.set_cons_succ, i64_w, i32_w]
    rfl
  refine take_ (i := 13) (N := some 23) (v := ?_) (a' := ?_) #[true, true, true, true, true, true, true, true, true, true, true, true, true, true, false, false, false] rfl rfl (take_ofW HT_.out HW_.out (by kernel_rfl)) (fun _ _ _ h => h) (Or.inl ⟨by rfl, ?_⟩) hHeld ?_ ?_
  rotate_left
  · rintro w' ⟨s0, s1, s2, s3⟩
    go_simp
    with_reducible rfl
  rotate_left
  · simp only [Act.put, List.setIfInBounds_toArray, List.set_cons_zero, List.set_cons_succ, i64_w, i32_w]
    rfl
  refine pure_ (i := 14) (N := some 2) (v := ?_) (a' := ?_) #[true, true, true, true, true, true, true, true, true, true, true, true, true, true, true, false, false] rfl rfl (any_of HT_.out (by kernel_rfl)) (fun _ _ _ h => h) (Or.inl ⟨by rfl, ?_⟩) ?_ ?_
  rotate_left
  · intro w'
    go_simp
    with_reducible rfl
  rotate_left
  · simp only [Act.put, List.setIfInBounds_toArray, List.set_cons_zero, List.set_cons_succ, i64_w, i32_w]
    rfl
  refine pure_ (i := 15) (N := some 3) (v := ?_) (a' := ?_) #[true, true, true, true, true, true, true, true, true, true, true, true, true, true, true, true, false] rfl rfl (any_of HT_.out (by kernel_rfl)) (fun _ _ _ h => h) (Or.inl ⟨by rfl, ?_⟩) ?_ ?_
  rotate_left
  · intro w'
    go_simp
    with_reducible rfl
  rotate_left
  · simp only [Act.put, List.setIfInBounds_toArray, List.set_cons_zero, List.set_cons_succ, i64_w, i32_w]
    rfl
  refine pure_ (i := 16) (N := some 4) (v := ?_) (a' := ?_) #[true, true, true, true, true, true, true, true, true, true, true, true, true, true, true, true, true] rfl rfl (any_of HT_.out (by kernel_rfl)) (fun _ _ _ h => h) (Or.inl ⟨by rfl, ?_⟩) ?_ ?_
  rotate_left
  · intro w'
    go_simp
    with_reducible rfl
  rotate_left
  · simp only [Act.put, List.setIfInBounds_toArray, List.set_cons_zero, List.set_cons_succ, i64_w, i32_w]
    rfl
  refine done_ (done_of HT_.out (by kernel_rfl)) ?_
  clear hHeld HT_ HW_
  try go_wp2
  go_ret3
  exact ⟨rfl, HB1.out⟩
set_option maxHeartbeats 8000000 in
set_option maxRecDepth 100000 in
theorem first_none (base g : Nat) (fv : Value) (A : Option Addr) (cap b : Nat) (c : Int) (w : World) (h : HAt w base g fv A cap b [] c) :
    Calls Try.prog 71 #[.pointer (some ⟨g, 0, none⟩)] w fun e w' => e = .returned (.tuple #[.string ByteArray.empty, .int .i64 0, .bool false]) ∧ Below w.heap.size w w' := by
  have H := Aside0.mk h
  clear h
  go_enter Try.func71, Try.ntmps71
  go_wp2_with fail
  refine (len_calls base g fv A cap b [] c w H.out).mono ?_
  rintro e w1 ⟨rfl, hw_⟩
  replace hw_ := hw_.symm
  subst hw_
  go_wp2
  go_ret3
  exact ⟨rfl, Below.refl _ _⟩
set_option maxHeartbeats 8000000 in
set_option maxRecDepth 100000 in
theorem rank_calls (base g : Nat) (fv : Value) (A : Option Addr) (cap b : Nat) (l : List It) (c : Int) (key : ByteArray) (w : World) (h : HAt w base g fv A cap b l c) (hk : okK key) {i : Nat} (hi : idxL l key = some i) :
    Calls Try.prog 50 #[.pointer (some ⟨g, 0, none⟩), .string key] w fun e w' => e = .returned (.tuple #[.int .i64 (at_ l i).2.1, .bool true]) ∧ w' = w := by
  obtain ⟨hil, hkey⟩ := idx_some hi
  obtain ⟨gl, rfl⟩ := h.some (by omega)
  have hc1 : w.cell? ⟨g, 1, none⟩ = some (.slice (some ⟨gl, 0, none⟩) l.length cap) := (blk_cell h.blk 1).trans rfl
  have hc2 : w.cell? ⟨g, 2, none⟩ = some (.map (some b)) := (blk_cell h.blk 2).trans rfl
  obtain ⟨_, i1, _, _⟩ := item_cells h.row hil
  have hm := h.map.look keyLaw Try.underlying117 (zero_int w) hk
  unfold encK at hm
  rw [hi] at hm
  simp only [Option.getD_some, Option.isSome_some] at hm
  have hill : (i : Int) < l.length := by omega
  clear h hk hi hkey
  go_enter Try.func50, Try.ntmps50
  go_wp2
  go_ret2
  exact ⟨rfl, rfl⟩
set_option maxHeartbeats 8000000 in
set_option maxRecDepth 100000 in
theorem rank_none (base g : Nat) (fv : Value) (A : Option Addr) (cap b : Nat) (l : List It) (c : Int) (key : ByteArray) (w : World) (h : HAt w base g fv A cap b l c) (hk : okK key) (hi : idxL l key = none) :
    Calls Try.prog 50 #[.pointer (some ⟨g, 0, none⟩), .string key] w fun e w' => e = .returned (.tuple #[.int .i64 0, .bool false]) ∧ w' = w := by
  have hc2 : w.cell? ⟨g, 2, none⟩ = some (.map (some b)) := (blk_cell h.blk 2).trans rfl
  have hm := h.map.look keyLaw Try.underlying117 (zero_int w) hk
  unfold encK at hm
  rw [hi] at hm
  simp only [Option.getD_none, Option.isSome_none] at hm
  clear h hk hi
  go_enter Try.func50, Try.ntmps50
  go_wp2
  go_ret2
  exact ⟨rfl, rfl⟩
set_option maxHeartbeats 8000000 in
set_option maxRecDepth 100000 in
theorem drop_none (base g : Nat) (fv : Value) (A : Option Addr) (cap b : Nat) (l : List It) (c : Int) (key : ByteArray) (w : World) (h : HAt w base g fv A cap b l c) (hk : okK key) (hi : idxL l key = none) :
    Calls Try.prog 52 #[.pointer (some ⟨g, 0, none⟩), .string key] w fun e w' => e = .returned (.bool false) ∧ w' = w := by
  have hc2 : w.cell? ⟨g, 2, none⟩ = some (.map (some b)) := (blk_cell h.blk 2).trans rfl
  have hm := h.map.look keyLaw Try.underlying117 (zero_int w) hk
  unfold encK at hm
  rw [hi] at hm
  simp only [Option.getD_none, Option.isSome_none] at hm
  clear h hk hi
  go_enter Try.func52, Try.ntmps52
  go_wp2
  go_ret
  exact ⟨rfl, rfl⟩
set_option maxHeartbeats 8000000 in
set_option maxRecDepth 100000 in
theorem drop_calls (base g f : Nat) (lt : Int → Int → Bool) (hlt : Less f lt) (A : Option Addr) (cap b : Nat) (l : List It) (c : Int) (key : ByteArray) (w : World) (h : HAt w base g (.func (.func f) #[] #[]) A cap b l c) (hk : okK key) {i : Nat} (hi : idxL l key = some i) (hl : l.length ≤ 140737488355328) :
    Calls Try.prog 52 #[.pointer (some ⟨g, 0, none⟩), .string key] w fun e w' => e = .returned (.bool true) ∧ HAt w' base g (.func (.func f) #[] #[]) A cap b (dropL lt l i) c ∧ Chg (hfp g A b) w w' := by
  obtain ⟨hil, hkey⟩ := idx_some hi
  obtain ⟨gl, rfl⟩ := h.some (by omega)
  obtain ⟨n, hn⟩ : ∃ n, l.length = n + 1 := ⟨l.length - 1, by omega⟩
  have H := Aside0.mk h
  have HLT := Aside0.mk hlt
  have HK := Aside0.mk hk
  have HL := Aside0.mk hl
  have HIX := Aside0.mk hi
  have HI := Aside0.mk hil
  have HKEY := Aside0.mk hkey
  have HN := Aside0.mk hn
  have hc1 : w.cell? ⟨g, 1, none⟩ = some (.slice (some ⟨gl, 0, none⟩) l.length cap) := (blk_cell h.blk 1).trans rfl
  have hc2 : w.cell? ⟨g, 2, none⟩ = some (.map (some b)) := (blk_cell h.blk 2).trans rfl
  have hm := h.map.look keyLaw Try.underlying117 (zero_int w) hk
  unfold encK at hm
  rw [hi] at hm
  simp only [Option.getD_some, Option.isSome_some] at hm
  have hln : (l.length : Int) - 1 = (n : Int) := by omega
  have hnb : (n : Int) ≤ 140737488355328 := by omega
  clear h hlt hk hl hi hil hkey hn
  go_enter Try.func52, Try.ntmps52
  go_wp2_with fail
  refine (swap_calls base g _ _ cap b l c i n w H.out HI.out (by have := HN.out; omega)).mono ?_
  rintro e w1 ⟨rfl, hs, hc⟩
  have HQ1 := Aside0.mk hs
  have HC1 := Aside0.mk hc
  have hcp : (n : Int) ≤ (cap : Int) := by
    obtain ⟨_, hh, _⟩ := Kd.R_reads' hs.row
    rw [swapL_len] at hh
    have := HN.out
    omega
  clear hs hc hc1 hc2 hm
  have HSL : Aside0 ((swapL l i n).length = n + 1) := ⟨by rw [swapL_len]; exact HN.out⟩
  have hc1 : w1.cell? ⟨g, 1, none⟩ = some (.slice (some ⟨gl, 0, none⟩) (n + 1) cap) := by rw [← HSL.out]; exact (blk_cell HQ1.out.blk 1).trans rfl
  have hc2 : w1.cell? ⟨g, 2, none⟩ = some (.map (some b)) := (blk_cell HQ1.out.blk 2).trans rfl
  have hf1 := blk_frozen HQ1.out.blk 1
  go_upto_region 9 with (fail)
  have HTL : Aside0 (((swapL l i n).take n).length = n) := ⟨by rw [List.length_take, HSL.out]; omega⟩
  have HG2 := Aside0.mk (blk_put HQ1.out.blk 1 (.slice (some ⟨gl, 0, none⟩) n cap) rfl)
  have HR2 : Aside0 (kIt.R 122 (w1.setCell ⟨g, 1, none⟩ (.slice (some ⟨gl, 0, none⟩) n cap)) base (fun _ => True) (.slice (some ⟨gl, 0, none⟩) n cap) ((swapL l i n).take n)) := ⟨Kd.R_set (Kd.R_take HQ1.out.row (by rw [HSL.out]; omega)) HQ1.out.blk (by decide) 1 _⟩
  have HM2 : Aside0 (MapAt encK okK (w1.setCell ⟨g, 1, none⟩ (.slice (some ⟨gl, 0, none⟩) n cap)) b (idxL (swapL l i n))) := ⟨HQ1.out.map.move (Below.heap_setCell w1 _ _ _ (fun e => HQ1.out.map.ne HQ1.out.blk e.symm))⟩
  have HC2 : Aside0 (Chg (hfp g (some ⟨gl, 0, none⟩) b) w (w1.setCell ⟨g, 1, none⟩ (.slice (some ⟨gl, 0, none⟩) n cap))) := ⟨HC1.out.setCell (Or.inl (Or.inl rfl)) _⟩
  clear hc1 hc2 hf1 hcp hln
  generalize (w1.setCell ⟨g, 1, none⟩ (.slice (some ⟨gl, 0, none⟩) n cap)) = w2 at HG2 HR2 HM2 HC2 ⊢
  have HQ2 : Aside0 (∀ w3, MapAt encK okK w3 b (rem (idxL (swapL l i n)) key) → w2.grownBy w3 (some b) → HAt w3 base g (.func (.func f) #[] #[]) (some ⟨gl, 0, none⟩) cap b ((swapL l i n).take n) c ∧ Chg (hfp g (some ⟨gl, 0, none⟩) b) w w3) := ⟨fun w3 hm hg => by
    have hne : some g ≠ some b := fun e => by cases e; exact HM2.out.ne HG2.out rfl
    have hr3 : kIt.R 122 w3 base (fun _ => True) (.slice (some ⟨gl, 0, none⟩) n cap) ((swapL l i n).take n) := Kd.R_mono (Kd.R_grown (Kd.R_bound HR2.out) hg (fun k hk e => by
      obtain ⟨_, _, _, q, _, cs, hcs⟩ := hk
      cases e
      exact HM2.out.ne hcs rfl)) (fun _ _ => True.intro)
    have hb3 := blk_grown HG2.out hg hne
    refine ⟨⟨by rw [HTL.out]; exact hb3, by rw [HTL.out]; exact hr3, hm.congr (fun k _ => ?_), H.out.ge, keys_take HQ1.out.keys n, fun y hy => HQ1.out.okk y (List.mem_of_mem_take hy)⟩, HC2.out.trans (Chg.keep (Chg.of_grown hg) (fun k hk _ => by cases hk; exact Or.inr (Or.inl rfl)))⟩
    have e := idx_take HQ1.out.keys HSL.out k
    rw [at_swap_j HI.out (by have := HN.out; omega), HKEY.out] at e
    exact e.symm⟩
  obtain ⟨w3, hdel, hm, hg⟩ := HM2.out.del keyLaw Try.underlying117 HK.out 9 0
  unfold encK at hdel
  have hq3 := HQ2.out w3 hm hg
  have HQ3 := Aside0.mk hq3.1
  have HC3 := Aside0.mk hq3.2
  clear hm hg hq3 HQ2
  have hc2 : w2.cell? ⟨g, 2, none⟩ = some (.map (some b)) := (blk_cell HG2.out 2).trans rfl
  clear HG2 HR2 HM2 HC2
  have e0 : dropL lt l i = if i < n then fixL lt ((swapL l i n).take n) i else (swapL l i n).take n := by
    have : l.length - 1 = n := by have := HN.out; omega
    unfold dropL
    rw [this]
  have HE0 := Aside0.mk e0
  clear e0
  by_cases hin : i < n
  · have hin' : (i : Int) < (n : Int) := by omega
    have HIN := Aside0.mk hin
    clear hin
    go_wp2_with fail
    refine (up_calls base g f lt HLT.out _ _ b ((swapL l i n).take n) _ i w3 HQ3.out (by rw [HTL.out]; exact HIN.out) (by rw [HTL.out]; have := HN.out; have := HL.out; omega)).mono ?_
    rintro e wu ⟨rfl, hu, hcu⟩
    have HU := Aside0.mk hu
    have HCU := Aside0.mk (HC3.out.trans hcu)
    clear hu hcu
    go_wp2_with fail
    refine (down_calls base g f lt HLT.out _ _ b (upL lt i ((swapL l i n).take n) i).1 _ (upL lt i ((swapL l i n).take n) i).2 wu HU.out (by rw [upL_len]; exact Nat.lt_of_le_of_lt (upL_le lt _ _ _) (by rw [HTL.out]; exact HIN.out)) (by rw [upL_len]; exact (by rw [HTL.out]; have := HN.out; have := HL.out; omega))).mono ?_
    rintro e wd ⟨rfl, hd, hcd⟩
    have HD := Aside0.mk hd
    have HCD := Aside0.mk (HCU.out.trans hcd)
    clear hd hcd
    go_wp2
    go_ret
    rw [HE0.out, if_pos HIN.out]
    have e1 : fixL lt ((swapL l i n).take n) i = downL lt (upL lt i ((swapL l i n).take n) i).1.length (upL lt i ((swapL l i n).take n) i).1 (upL lt i ((swapL l i n).take n) i).2 := by
      rw [upL_len]
      rfl
    rw [e1]
    exact ⟨rfl, HD.out, HCD.out⟩
  · have hin' : ¬ (i : Int) < (n : Int) := by omega
    have HIN := Aside0.mk hin
    clear hin
    go_wp2
    go_ret
    rw [HE0.out, if_neg HIN.out]
    exact ⟨rfl, HQ3.out, HC3.out⟩
set_option maxHeartbeats 8000000 in
set_option maxRecDepth 100000 in
theorem pop_calls (base g f : Nat) (lt : Int → Int → Bool) (hlt : Less f lt) (A : Option Addr) (cap b : Nat) (l : List It) (c : Int) (w : World) (h : HAt w base g (.func (.func f) #[] #[]) A cap b l c) (h0 : 0 < l.length) (hl : l.length ≤ 140737488355328) :
    Calls Try.prog 49 #[.pointer (some ⟨g, 0, none⟩)] w fun e w' => e = .returned (.tuple #[.string (at_ l 0).1, .int .i64 (at_ l 0).2.1, .bool true]) ∧ HAt w' base g (.func (.func f) #[] #[]) A cap b (dropL lt l 0) c ∧ Chg (hfp g A b) w w' := by
  have H := Aside0.mk h
  have HLT := Aside0.mk hlt
  have HL := Aside0.mk hl
  have HZ := Aside0.mk h0
  clear h hlt hl h0
  go_enter Try.func49, Try.ntmps49
  go_wp2_with fail
  refine (first_calls base g _ A cap b l c w H.out HZ.out).mono ?_
  rintro e w1 ⟨rfl, hb⟩
  have HQ := Aside0.mk (H.out.below hb)
  have HC : Aside0 (Chg (hfp g A b) w w1) := ⟨Chg.of_below hb⟩
  clear hb
  go_wp2_with fail
  refine (drop_calls base g f lt HLT.out A cap b l c _ w1 HQ.out (H.out.okk _ (at_mem HZ.out)) (idx_at H.out.keys HZ.out) HL.out).mono ?_
  rintro e w2 ⟨rfl, hd, hc⟩
  have HD := Aside0.mk hd
  have HC2 := Aside0.mk (HC.out.trans hc)
  clear hd hc
  go_wp2
  go_ret3
  exact ⟨rfl, HD.out, HC2.out⟩
set_option maxHeartbeats 8000000 in
set_option maxRecDepth 100000 in
theorem pop_none (base g : Nat) (fv : Value) (A : Option Addr) (cap b : Nat) (c : Int) (w : World) (h : HAt w base g fv A cap b [] c) :
    Calls Try.prog 49 #[.pointer (some ⟨g, 0, none⟩)] w fun e w' => e = .returned (.tuple #[.string ByteArray.empty, .int .i64 0, .bool false]) ∧ Below w.heap.size w w' := by
  have H := Aside0.mk h
  clear h
  go_enter Try.func49, Try.ntmps49
  go_wp2_with fail
  refine (first_none base g fv A cap b c w H.out).mono ?_
  rintro e w1 ⟨rfl, hb⟩
  have HB := Aside0.mk hb
  clear hb
  go_wp2
  go_ret3
  exact ⟨rfl, HB.out⟩
end Go.Proofs.Ytibipbfmhbkpiaa.HeapSI
