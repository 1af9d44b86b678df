/- What a heap shows. Conditions: those that stand in each theorem. Written by wip/gen/heapdo.py. -/
import Derived.Test.YtibipbfmhbkpiaaHeapXW
namespace Go.Proofs.Ytibipbfmhbkpiaa.HeapDI
open Go.RowKit Go.Proofs.YtibipbfmhbkpiaaW.PrintWords Go.Proofs.YtibipbfmhbkpiaaW.PrintLast Go.Proofs.YtibipbfmhbkpiaaW.PrintMore Go.Proofs.Ytibipbfmhbkpiaa.HeapW Go.Proofs.Ytibipbfmhbkpiaa.HeapP Go.Proofs.Ytibipbfmhbkpiaa.MapAt Go.Proofs.Ytibipbfmhbkpiaa.Q
set_option linter.unusedVariables false
set_option linter.unusedSimpArgs false
theorem pair_eq {α β : Type} {a a' : α} {b b' : β} (h : a = a') (k : b = b') : ((a, b) : α × β) = (a', b') := by subst h; subst k; rfl
def rkO (M : List It) (key : Kt) : Int := match idxL M key with
  | none => 0
  | some j => (at_ M j).2.1
theorem hrank_w {w : World} {base gH gR : Nat} {ord : Int} {M : List It} {c : Nat} {L : List Rt} {F : Nat → Prop} (h : Slot w base gH gR ord M c L F) (key : Kt) (hk : okK key) :
    Calls Try.prog 38 #[.pointer (some ⟨gH, 0, none⟩), .agg #[.int .u8 key.1, .int .u8 key.2.1, .int .u8 key.2.2.1, .int .u8 key.2.2.2.1, .int .u8 key.2.2.2.2.1, .int .u8 key.2.2.2.2.2.1, .int .u8 key.2.2.2.2.2.2.1, .int .u8 key.2.2.2.2.2.2.2]] w fun e w' => e = .returned (.tuple #[.int .i64 (rkO M key), .bool (idxL M key).isSome]) ∧ Below w.heap.size w w' := (hrank_slot h key hk).mono (fun e w' q => q)
theorem rrank_w {w : World} {base gH gR : Nat} {ord : Int} {M : List It} {c : Nat} {F : Nat → Prop} (h : Slot w base gH gR ord M c (M.map pairOf) F) (key : Kt) (hL : (M.map pairOf).length ≤ 4000000000000) (hb : base ≤ w.heap.size) :
    Calls Try.prog 39 #[.pointer (some ⟨gR, 0, none⟩), .agg #[.int .u8 key.1, .int .u8 key.2.1, .int .u8 key.2.2.1, .int .u8 key.2.2.2.1, .int .u8 key.2.2.2.2.1, .int .u8 key.2.2.2.2.2.1, .int .u8 key.2.2.2.2.2.2.1, .int .u8 key.2.2.2.2.2.2.2]] w fun e w' => e = .returned (.tuple #[.int .i64 (rkO M key), .bool (idxL M key).isSome]) ∧ Below w.heap.size w w' := (rrank_slot h key hL hb).mono (by
  rintro e w' ⟨rfl, q⟩
  refine ⟨?_, q⟩
  have e1 := rank_map (M := M) key
  have e2 := congrArg Option.isSome (idxR_map M key)
  exact congrArg (fun (x : Int × Bool) => Ending.returned (.tuple #[.int .i64 x.1, .bool x.2])) (pair_eq e1 e2))
def looks.T5 : Bool × List (List Nat × List Nat) := (true, [([], []), ([], []), ([0], [0]), ([2], [2]), ([3, 1], [1, 3]), ([4], [4]), ([], []), ([5, 6], [5, 6]), ([7], [7]), ([8], [8]), ([8], [8]), ([9, 7, 0, 1, 2, 3, 4, 5, 6, 7, 8, 9], [9]), ([10, 11, 0, 1, 2, 3, 4, 5, 6, 7, 8, 9, 10, 11], [10])])
def looks.B5 : List Nat := [0, 0, 1, 5, 15, 31, 0, 127, 255, 511, 511, 1023, 4095]
theorem looks.tab5 : rtab .any (opsOf Try.f10 5) = looks.T5 := by kernel_rfl
theorem looks.bits5 : waitsOk looks.T5.2 looks.B5 = true := by kernel_rfl
def looks.T6 : Bool × List (List Nat × List Nat) := (true, [([], []), ([], []), ([0, 1], [0, 1]), ([2], [2]), ([3], [3]), ([3], [3]), ([5, 3], [3, 5]), ([4, 6, 3], [3, 4, 6]), ([3, 7], [3, 7]), ([8, 3], [8]), ([9], [9]), ([9], [9]), ([11, 9], [9, 11]), ([10, 12, 9], [9, 10, 12]), ([9, 13], [9, 13]), ([14, 9], [14]), ([15], [15]), ([15], [15]), ([16, 17, 15], [15, 16, 17]), ([15, 18], [15, 18]), ([19, 15], [19]), ([20], [20]), ([20], [20]), ([21, 22, 20], [20, 21, 22]), ([20, 23], [20, 23]), ([24, 20], [24]), ([25], [25]), ([26, 25, 25], [25, 26]), ([25], [25]), ([25], [25]), ([28, 25], [25, 28]), ([30, 25], [25, 30]), ([31, 29, 25], [25, 29, 31]), ([32, 25], [25, 32]), ([33, 25], [25, 33]), ([34, 25], [25, 34]), ([35, 25], [25, 35]), ([36, 25], [25, 36]), ([27, 37, 25], [25, 27, 37]), ([25, 38], [25, 38]), ([39, 27, 0, 1, 2, 3, 4, 5, 6, 7, 8, 9, 10, 11, 12, 13, 14, 15, 16, 17, 18, 19, 20, 21, 22, 23, 24, 25, 26, 27, 28, 29, 30, 31, 32, 33, 34, 35, 36, 37, 38, 39], [39])])
def looks.B6 : List Nat := [0, 0, 3, 7, 15, 15, 47, 127, 255, 511, 1023, 1023, 3071, 8191, 16383, 32767, 65535, 65535, 262143, 524287, 1048575, 2097151, 2097151, 8388607, 16777215, 33554431, 67108863, 134217727, 67108863, 67108863, 335544319, 1409286143, 4093640703, 8388607999, 16978542591, 34158411775, 68518150143, 137237626879, 274877906943, 549755813887, 1099511627775]
theorem looks.tab6 : rtab .any (opsOf Try.f10 6) = looks.T6 := by kernel_rfl
theorem looks.bits6 : waitsOk looks.T6.2 looks.B6 = true := by kernel_rfl
set_option maxHeartbeats 8000000 in
set_option maxRecDepth 100000 in
theorem looks0 {w : World} {base gw gH gR : Nat} {ord : Int} {M : List It} {c : Nat} {F : Nat → Prop} {p1 p3 : Value} (key : Kt) (h : Slot w base gH gR ord M c (M.map pairOf) F) (hW : w.heap[gw]? = some (.cells #[(.pointer (some ⟨gH, 0, none⟩)), p1, (.pointer (some ⟨gR, 0, none⟩)), p3] 29 (0, 0))) (hk : okK key) (hc : c < 4000000000000) (hM : M.length ≤ c) (hb : base ≤ w.heap.size) :
    Calls Try.prog 10 #[.pointer (some ⟨gw, 0, none⟩), .int .i64 0, .agg #[.int .u8 key.1, .int .u8 key.2.1, .int .u8 key.2.2.1, .int .u8 key.2.2.2.1, .int .u8 key.2.2.2.2.1, .int .u8 key.2.2.2.2.2.1, .int .u8 key.2.2.2.2.2.2.1, .int .u8 key.2.2.2.2.2.2.2]] w fun e w' => e = .returned (.bool true) ∧ Below w.heap.size w w' := by
  have H := Aside0.mk h
  have HW := Aside0.mk hW
  have HK := Aside0.mk hk
  have HC := Aside0.mk hc
  have HM := Aside0.mk hM
  have HML : Aside0 ((M.map pairOf).length ≤ 4000000000000) := ⟨by rw [List.length_map]; omega⟩
  have HBS := Aside0.mk hb
  have HGW : Aside0 (gw < w.heap.size) := ⟨blk_lt hW⟩
  clear h hW hk hc hM hb
  go_enter Try.func10, Try.ntmps10
  go_upto_region 1 with (fail)
  have HOX : Aside0 ((w.alloc (.cells #[.int .u8 key.1, .int .u8 key.2.1, .int .u8 key.2.2.1, .int .u8 key.2.2.2.1, .int .u8 key.2.2.2.2.1, .int .u8 key.2.2.2.2.2.1, .int .u8 key.2.2.2.2.2.2.1, .int .u8 key.2.2.2.2.2.2.2] 33)).heap[w.heap.size]? = some (.cells #[.int .u8 key.1, .int .u8 key.2.1, .int .u8 key.2.2.1, .int .u8 key.2.2.2.1, .int .u8 key.2.2.2.2.1, .int .u8 key.2.2.2.2.2.1, .int .u8 key.2.2.2.2.2.2.1, .int .u8 key.2.2.2.2.2.2.2] 33)) := ⟨blk_new _ _⟩
  have HBB : Aside0 (Below w.heap.size w (w.alloc (.cells #[.int .u8 key.1, .int .u8 key.2.1, .int .u8 key.2.2.1, .int .u8 key.2.2.2.1, .int .u8 key.2.2.2.2.1, .int .u8 key.2.2.2.2.2.1, .int .u8 key.2.2.2.2.2.2.1, .int .u8 key.2.2.2.2.2.2.2] 33))) := ⟨below_alloc (Below.refl _ _) _⟩
  have HS := Aside0.mk (H.out.below HBB.out)
  have HWB := Aside0.mk ((HBB.out.block _ HGW.out).trans HW.out)
  generalize w.alloc (.cells #[.int .u8 key.1, .int .u8 key.2.1, .int .u8 key.2.2.1, .int .u8 key.2.2.2.1, .int .u8 key.2.2.2.2.1, .int .u8 key.2.2.2.2.2.1, .int .u8 key.2.2.2.2.2.2.1, .int .u8 key.2.2.2.2.2.2.2] 33) = wB at HOX HBB HS HWB ⊢
  have hcW1 := (blk_cell HWB.out 2).trans rfl
  go_wp2_with fail
  refine (rfirst_slot HS.out HML.out (Nat.le_trans HBS.out HBB.out.size)).mono ?_
  rintro e w1 ⟨rfl, hb⟩
  have HB1 := Aside0.mk (below_step HBB.out hb)
  have HS1 := Aside0.mk (HS.out.below hb)
  have HWB1 := Aside0.mk ((hb.block _ (blk_lt HWB.out)).trans HWB.out)
  have HOX1 := Aside0.mk ((hb.block _ (blk_lt HOX.out)).trans HOX.out)
  have HX1 := Aside0.mk (blk_new w1 (.cells #[.int .u8 0, .int .u8 0, .int .u8 0, .int .u8 0, .int .u8 0, .int .u8 0, .int .u8 0, .int .u8 0, .int .i64 0] 87))
  obtain ⟨ok, hok⟩ : ∃ ok, ok = (fstM ord M).isSome := ⟨_, rfl⟩
  obtain ⟨ko, hko⟩ : ∃ ko, ko = keyO ord M := ⟨_, rfl⟩
  obtain ⟨ro, hro⟩ : ∃ ro, ro = rankO ord M := ⟨_, rfl⟩
  obtain ⟨rk, hrk⟩ : ∃ rk, rk = rkO M key := ⟨_, rfl⟩
  obtain ⟨rok, hrok⟩ : ∃ rok, rok = (idxL M key).isSome := ⟨_, rfl⟩
  have HOKR := Aside0.mk (And.intro hok (And.intro hko (And.intro hro (And.intro hrk hrok))))
  rw [fst_map, item_map, ← hok, ← hko, ← hro]
  clear hb hok hko hro hrk hrok hcW1
  go_upto_region 2 with ((with_reducible refine gate_store (t := 87) (p := 7) (v := .tmp 25) rfl ?_); refine wpList_store_row rfl 87 (.tmp 7) (.tmp 25) rfl w1.heap.size #[.int .u8 ko.1, .int .u8 ko.2.1, .int .u8 ko.2.2.1, .int .u8 ko.2.2.2.1, .int .u8 ko.2.2.2.2.1, .int .u8 ko.2.2.2.2.2.1, .int .u8 ko.2.2.2.2.2.2.1, .int .u8 ko.2.2.2.2.2.2.2, .int .i64 ro] rfl rfl _ _ HX1.out infoRI' rfl (by simp [Value.oneCell']) ?_; have hs := chg_row (cs := #[.int .u8 ko.1, .int .u8 ko.2.1, .int .u8 ko.2.2.1, .int .u8 ko.2.2.2.1, .int .u8 ko.2.2.2.2.1, .int .u8 ko.2.2.2.2.2.1, .int .u8 ko.2.2.2.2.2.2.1, .int .u8 ko.2.2.2.2.2.2.2, .int .i64 ro]) HX1.out; have HR2 := Aside0.mk hs.1; have hsc := (Chg.of_below (F := (fun _ => False)) (below_alloc (Below.refl w1.heap.size w1) (.cells #[.int .u8 0, .int .u8 0, .int .u8 0, .int .u8 0, .int .u8 0, .int .u8 0, .int .u8 0, .int .u8 0, .int .i64 0] 87))).then hs.2 (fun i hi => Or.inr (Nat.le_of_eq (Eq.symm hi))); have hbq : Below w1.heap.size w1 ((w1.alloc (.cells #[.int .u8 0, .int .u8 0, .int .u8 0, .int .u8 0, .int .u8 0, .int .u8 0, .int .u8 0, .int .u8 0, .int .i64 0] 87)).setRow w1.heap.size #[.int .u8 ko.1, .int .u8 ko.2.1, .int .u8 ko.2.2.1, .int .u8 ko.2.2.2.1, .int .u8 ko.2.2.2.2.1, .int .u8 ko.2.2.2.2.2.1, .int .u8 ko.2.2.2.2.2.2.1, .int .u8 ko.2.2.2.2.2.2.2, .int .i64 ro]) := hsc.below (Nat.le_refl _) (fun _ q => q.elim); have HB2 := Aside0.mk (below_step HB1.out hbq); have HS2 := Aside0.mk (HS1.out.below hbq); have HWB2 := Aside0.mk ((hbq.block _ (blk_lt HWB1.out)).trans HWB1.out); have HOX2 := Aside0.mk ((hbq.block _ (blk_lt HOX1.out)).trans HOX1.out); clear hbq hsc HB1; clear hs; generalize (w1.alloc (.cells #[.int .u8 0, .int .u8 0, .int .u8 0, .int .u8 0, .int .u8 0, .int .u8 0, .int .u8 0, .int .u8 0, .int .i64 0] 87)).setRow w1.heap.size #[.int .u8 ko.1, .int .u8 ko.2.1, .int .u8 ko.2.2.1, .int .u8 ko.2.2.2.1, .int .u8 ko.2.2.2.2.1, .int .u8 ko.2.2.2.2.2.1, .int .u8 ko.2.2.2.2.2.2.1, .int .u8 ko.2.2.2.2.2.2.2, .int .i64 ro] = w2 at HR2 HB2 HS2 HWB2 HOX2 ⊢)
  have hcW0 := (blk_cell HWB2.out 0).trans rfl
  go_wp2_with fail
  refine (hfirst_slot HS2.out HC.out HM.out).mono ?_
  rintro e w3 ⟨rfl, hb⟩
  have HB3 := Aside0.mk (below_step HB2.out hb)
  have HS3 := Aside0.mk (HS2.out.below hb)
  have HWB3 := Aside0.mk ((hb.block _ (blk_lt HWB2.out)).trans HWB2.out)
  have HOX3 := Aside0.mk ((hb.block _ (blk_lt HOX2.out)).trans HOX2.out)
  have HR3 := Aside0.mk ((hb.block _ (blk_lt HR2.out)).trans HR2.out)
  have HX3 := Aside0.mk (blk_new w3 (.cells #[.int .u8 0, .int .u8 0, .int .u8 0, .int .u8 0, .int .u8 0, .int .u8 0, .int .u8 0, .int .u8 0] 33))
  rw [← HOKR.out.1, ← HOKR.out.2.1, ← HOKR.out.2.2.1]
  clear hb HB2 hcW0
  go_upto_region 4 with ((with_reducible refine gate_store (t := 33) (p := 10) (v := .tmp 36) rfl ?_); refine wpList_store_row rfl 33 (.tmp 10) (.tmp 36) rfl w3.heap.size #[.int .u8 ko.1, .int .u8 ko.2.1, .int .u8 ko.2.2.1, .int .u8 ko.2.2.2.1, .int .u8 ko.2.2.2.2.1, .int .u8 ko.2.2.2.2.2.1, .int .u8 ko.2.2.2.2.2.2.1, .int .u8 ko.2.2.2.2.2.2.2] rfl rfl _ _ HX3.out infoK rfl (by simp [Value.oneCell']) ?_; have hs := chg_row (cs := #[.int .u8 ko.1, .int .u8 ko.2.1, .int .u8 ko.2.2.1, .int .u8 ko.2.2.2.1, .int .u8 ko.2.2.2.2.1, .int .u8 ko.2.2.2.2.2.1, .int .u8 ko.2.2.2.2.2.2.1, .int .u8 ko.2.2.2.2.2.2.2]) HX3.out; have HK4 := Aside0.mk hs.1; have hsc := (Chg.of_below (F := (fun _ => False)) (below_alloc (Below.refl w3.heap.size w3) (.cells #[.int .u8 0, .int .u8 0, .int .u8 0, .int .u8 0, .int .u8 0, .int .u8 0, .int .u8 0, .int .u8 0] 33))).then hs.2 (fun i hi => Or.inr (Nat.le_of_eq (Eq.symm hi))); have hbq : Below w3.heap.size w3 ((w3.alloc (.cells #[.int .u8 0, .int .u8 0, .int .u8 0, .int .u8 0, .int .u8 0, .int .u8 0, .int .u8 0, .int .u8 0] 33)).setRow w3.heap.size #[.int .u8 ko.1, .int .u8 ko.2.1, .int .u8 ko.2.2.1, .int .u8 ko.2.2.2.1, .int .u8 ko.2.2.2.2.1, .int .u8 ko.2.2.2.2.2.1, .int .u8 ko.2.2.2.2.2.2.1, .int .u8 ko.2.2.2.2.2.2.2]) := hsc.below (Nat.le_refl _) (fun _ q => q.elim); have HB4 := Aside0.mk (below_step HB3.out hbq); have HS4 := Aside0.mk (HS3.out.below hbq); have HWB4 := Aside0.mk ((hbq.block _ (blk_lt HWB3.out)).trans HWB3.out); have HOX4 := Aside0.mk ((hbq.block _ (blk_lt HOX3.out)).trans HOX3.out); have HR4 := Aside0.mk ((hbq.block _ (blk_lt HR3.out)).trans HR3.out); clear hbq hsc HB3; clear hs; generalize (w3.alloc (.cells #[.int .u8 0, .int .u8 0, .int .u8 0, .int .u8 0, .int .u8 0, .int .u8 0, .int .u8 0, .int .u8 0] 33)).setRow w3.heap.size #[.int .u8 ko.1, .int .u8 ko.2.1, .int .u8 ko.2.2.1, .int .u8 ko.2.2.2.1, .int .u8 ko.2.2.2.2.1, .int .u8 ko.2.2.2.2.2.1, .int .u8 ko.2.2.2.2.2.2.1, .int .u8 ko.2.2.2.2.2.2.2] = w4 at HK4 HB4 HS4 HWB4 HOX4 HR4 ⊢)
  have hcO0 : w4.cell? ⟨w.heap.size, 0, none⟩ = some (.int .u8 key.1) := (blk_cell HOX4.out 0).trans rfl
  have hcO1 : w4.cell? ⟨w.heap.size, 1, none⟩ = some (.int .u8 key.2.1) := (blk_cell HOX4.out 1).trans rfl
  have hcO2 : w4.cell? ⟨w.heap.size, 2, none⟩ = some (.int .u8 key.2.2.1) := (blk_cell HOX4.out 2).trans rfl
  have hcO3 : w4.cell? ⟨w.heap.size, 3, none⟩ = some (.int .u8 key.2.2.2.1) := (blk_cell HOX4.out 3).trans rfl
  have hcO4 : w4.cell? ⟨w.heap.size, 4, none⟩ = some (.int .u8 key.2.2.2.2.1) := (blk_cell HOX4.out 4).trans rfl
  have hcO5 : w4.cell? ⟨w.heap.size, 5, none⟩ = some (.int .u8 key.2.2.2.2.2.1) := (blk_cell HOX4.out 5).trans rfl
  have hcO6 : w4.cell? ⟨w.heap.size, 6, none⟩ = some (.int .u8 key.2.2.2.2.2.2.1) := (blk_cell HOX4.out 6).trans rfl
  have hcO7 : w4.cell? ⟨w.heap.size, 7, none⟩ = some (.int .u8 key.2.2.2.2.2.2.2) := (blk_cell HOX4.out 7).trans rfl
  go_wp2_with fail
  refine (hrank_w HS4.out key HK.out).mono ?_
  rintro e w5 ⟨rfl, hb⟩
  have HB5 := Aside0.mk (below_step HB4.out hb)
  have HS5 := Aside0.mk (HS4.out.below hb)
  have HWB5 := Aside0.mk ((hb.block _ (blk_lt HWB4.out)).trans HWB4.out)
  have HOX5 := Aside0.mk ((hb.block _ (blk_lt HOX4.out)).trans HOX4.out)
  have HR5 := Aside0.mk ((hb.block _ (blk_lt HR4.out)).trans HR4.out)
  have HK5 := Aside0.mk ((hb.block _ (blk_lt HK4.out)).trans HK4.out)
  rw [← HOKR.out.2.2.2.1, ← HOKR.out.2.2.2.2]
  clear hb HB4 hcO0 hcO1 hcO2 hcO3 hcO4 hcO5 hcO6 hcO7
  go_wp2_with fail
  refine start_ (n := 13) (S := fun w' => w'.cell? ⟨gw, 2, none⟩ = some (.pointer (some ⟨gR, 0, none⟩)) ∧ w'.cell? ⟨w.heap.size, 0, none⟩ = some (.int .u8 key.1) ∧ w'.cell? ⟨w.heap.size, 1, none⟩ = some (.int .u8 key.2.1) ∧ w'.cell? ⟨w.heap.size, 2, none⟩ = some (.int .u8 key.2.2.1) ∧ w'.cell? ⟨w.heap.size, 3, none⟩ = some (.int .u8 key.2.2.2.1) ∧ w'.cell? ⟨w.heap.size, 4, none⟩ = some (.int .u8 key.2.2.2.2.1) ∧ w'.cell? ⟨w.heap.size, 5, none⟩ = some (.int .u8 key.2.2.2.2.2.1) ∧ w'.cell? ⟨w.heap.size, 6, none⟩ = some (.int .u8 key.2.2.2.2.2.2.1) ∧ w'.cell? ⟨w.heap.size, 7, none⟩ = some (.int .u8 key.2.2.2.2.2.2.2)) (ds := []) #[false, false, false, false, false, false, false, false, false, false, false, false, false] (by kernel_rfl) rfl rfl ⟨(blk_cell HWB5.out 2).trans rfl, (blk_cell HOX5.out 0).trans rfl, (blk_cell HOX5.out 1).trans rfl, (blk_cell HOX5.out 2).trans rfl, (blk_cell HOX5.out 3).trans rfl, (blk_cell HOX5.out 4).trans rfl, (blk_cell HOX5.out 5).trans rfl, (blk_cell HOX5.out 6).trans rfl, (blk_cell HOX5.out 7).trans rfl⟩ (fun hHeld => ?_)
  refine with_tabW looks.tab5 looks.bits5 (fun HT_ HW_ => ?_)
  have hb : Below w5.heap.size w5 w5.drew := below_drew (Below.refl _ _)
  have HB6 := Aside0.mk (below_step HB5.out hb)
  have HS6 := Aside0.mk (HS5.out.below hb)
  have HWB6 := Aside0.mk ((hb.block _ (blk_lt HWB5.out)).trans HWB5.out)
  have HOX6 := Aside0.mk ((hb.block _ (blk_lt HOX5.out)).trans HOX5.out)
  have HR6 := Aside0.mk ((hb.block _ (blk_lt HR5.out)).trans HR5.out)
  have HK6 := Aside0.mk ((hb.block _ (blk_lt HK5.out)).trans HK5.out)
  clear hb
  generalize w5.drew = w6 at HB6 HS6 HWB6 HOX6 HR6 HK6 hHeld ⊢
  refine pure_ (i := 0) (N := some 46) (v := ?_) (a' := ?_) #[true, false, false, false, false, false, false, false, false, false, false, false, false] rfl rfl (any_of HT_.out (by kernel_rfl)) (fun _ _ _ h => h) (Or.inl ⟨by rfl, ?_⟩) ?_ ?_
  rotate_left
  · intro w'
    go_simp
    with_reducible rfl
  rotate_left
  · simp only [Act.put, List.setIfInBounds_toArray, List.set_cons_zero, List.set_cons_succ, i64_w, i32_w]
    rfl
  refine pure_ (i := 1) (N := some 47) (v := ?_) (a' := ?_) #[true, true, false, false, false, false, false, false, false, false, false, false, false] rfl rfl (any_of HT_.out (by kernel_rfl)) (fun _ _ _ h => h) (Or.inl ⟨by rfl, ?_⟩) ?_ ?_
  rotate_left
  · intro w'
    go_simp
    with_reducible rfl
  rotate_left
  · simp only [Act.put, List.setIfInBounds_toArray, List.set_cons_zero, List.set_cons_succ, i64_w, i32_w]
    rfl
  refine pure_ (i := 2) (N := some 48) (v := ?_) (a' := ?_) #[true, true, true, false, false, false, false, false, false, false, false, false, false] rfl rfl (any_of HT_.out (by kernel_rfl)) (fun _ _ _ h => h) (Or.inl ⟨by rfl, ?_⟩) ?_ ?_
  rotate_left
  · intro w'
    go_simp
    with_reducible rfl
  rotate_left
  · simp only [Act.put, List.setIfInBounds_toArray, List.set_cons_zero, List.set_cons_succ, i64_w, i32_w]
    rfl
  refine pure_ (i := 3) (N := some 49) (v := ?_) (a' := ?_) #[true, true, true, true, false, false, false, false, false, false, false, false, false] rfl rfl (any_of HT_.out (by kernel_rfl)) (fun _ _ _ h => h) (Or.inl ⟨by rfl, ?_⟩) ?_ ?_
  rotate_left
  · intro w'
    go_simp
    with_reducible rfl
  rotate_left
  · simp only [Act.put, List.setIfInBounds_toArray, List.set_cons_zero, List.set_cons_succ, i64_w, i32_w]
    rfl
  refine pure_ (i := 4) (N := some 50) (v := ?_) (a' := ?_) #[true, true, true, true, true, false, false, false, false, false, false, false, false] rfl rfl (any_of HT_.out (by kernel_rfl)) (fun _ _ _ h => h) (Or.inl ⟨by rfl, ?_⟩) ?_ ?_
  rotate_left
  · intro w'
    go_simp
    with_reducible rfl
  rotate_left
  · simp only [Act.put, List.setIfInBounds_toArray, List.set_cons_zero, List.set_cons_succ, i64_w, i32_w]
    rfl
  refine take_ (i := 5) (N := some 51) (v := ?_) (a' := ?_) #[true, true, true, true, true, true, false, false, false, false, false, false, false] rfl rfl (take_ofW HT_.out HW_.out (by kernel_rfl)) (fun _ _ _ h => h) (Or.inl ⟨by rfl, ?_⟩) hHeld ?_ ?_
  rotate_left
  · rintro w' ⟨s0, s1, s2, s3, s4, s5, s6, s7, s8⟩
    go_simp
    with_reducible rfl
  rotate_left
  · simp only [Act.put, List.setIfInBounds_toArray, List.set_cons_zero, List.set_cons_succ, i64_w, i32_w]
    rfl
  refine take_ (i := 6) (N := some 52) (v := ?_) (a' := ?_) #[true, true, true, true, true, true, true, false, false, false, false, false, false] rfl rfl (take_ofW HT_.out HW_.out (by kernel_rfl)) (fun _ _ _ h => h) (Or.inl ⟨by rfl, ?_⟩) hHeld ?_ ?_
  rotate_left
  · rintro w' ⟨s0, s1, s2, s3, s4, s5, s6, s7, s8⟩
    go_simp
    with_reducible rfl
  rotate_left
  · simp only [Act.put, List.setIfInBounds_toArray, List.set_cons_zero, List.set_cons_succ, i64_w, i32_w]
    rfl
  refine one_ (i := 7) (N := some 53) #[true, true, true, true, true, true, true, true, false, false, false, false, false] rfl rfl (one_of HT_.out (by kernel_rfl)) (by decide) (fun K hK => ?_)
  refine goes_ Try.func39 (by kernel_rfl) rfl #[.pointer (some ⟨gR, 0, none⟩), .agg #[.int .u8 key.1, .int .u8 key.2.1, .int .u8 key.2.2.1, .int .u8 key.2.2.2.1, .int .u8 key.2.2.2.2.1, .int .u8 key.2.2.2.2.2.1, .int .u8 key.2.2.2.2.2.2.1, .int .u8 key.2.2.2.2.2.2.2]] (by rfl) rfl rfl (by simp only [List.map_toArray, List.map_cons, List.map_nil]; rfl) ?_
  with_reducible refine (rrank_w HS6.out key HML.out (Nat.le_trans HBS.out HB6.out.size)).mono ?_
  rintro e w7 ⟨rfl, hb⟩
  refine ⟨_, rfl, ?_⟩
  have HB7 := Aside0.mk (below_step HB6.out hb)
  have HS7 := Aside0.mk (HS6.out.below hb)
  have HWB7 := Aside0.mk ((hb.block _ (blk_lt HWB6.out)).trans HWB6.out)
  have HOX7 := Aside0.mk ((hb.block _ (blk_lt HOX6.out)).trans HOX6.out)
  have HR7 := Aside0.mk ((hb.block _ (blk_lt HR6.out)).trans HR6.out)
  have HK7 := Aside0.mk ((hb.block _ (blk_lt HK6.out)).trans HK6.out)
  rw [← HOKR.out.2.2.2.1, ← HOKR.out.2.2.2.2]
  clear hb HB6
  refine hK.out _ _ ⟨(blk_cell HWB7.out 2).trans rfl, (blk_cell HOX7.out 0).trans rfl, (blk_cell HOX7.out 1).trans rfl, (blk_cell HOX7.out 2).trans rfl, (blk_cell HOX7.out 3).trans rfl, (blk_cell HOX7.out 4).trans rfl, (blk_cell HOX7.out 5).trans rfl, (blk_cell HOX7.out 6).trans rfl, (blk_cell HOX7.out 7).trans rfl⟩ (fun hHeld => ?_)
  clear hK K
  refine norm_ (a' := ?_) ?_ ?_
  rotate_left
  · show Act.put _ (some 53) _ = _
    simp only [Act.put, List.setIfInBounds_toArray, List.set_cons_zero, List.set_cons_succ, i64_w, i32_w]
    rfl
  refine pure_ (i := 8) (N := some 45) (v := ?_) (a' := ?_) #[true, true, true, true, true, true, true, true, true, false, false, false, false] rfl rfl (any_of HT_.out (by kernel_rfl)) (fun _ _ _ h => h) (Or.inl ⟨by rfl, ?_⟩) ?_ ?_
  rotate_left
  · intro w'
    go_simp
    with_reducible rfl
  rotate_left
  · simp only [Act.put, List.setIfInBounds_toArray, List.set_cons_zero, List.set_cons_succ, i64_w, i32_w]
    rfl
  refine pure_ (i := 9) (N := some 54) (v := ?_) (a' := ?_) #[true, true, true, true, true, true, true, true, true, true, false, false, false] rfl rfl (any_of HT_.out (by kernel_rfl)) (fun _ _ _ h => h) (Or.inl ⟨by rfl, ?_⟩) ?_ ?_
  rotate_left
  · intro w'
    go_simp
    with_reducible rfl
  rotate_left
  · simp only [Act.put, List.setIfInBounds_toArray, List.set_cons_zero, List.set_cons_succ, i64_w, i32_w]
    rfl
  refine pure_ (i := 10) (N := some 55) (v := ?_) (a' := ?_) #[true, true, true, true, true, true, true, true, true, true, true, false, false] rfl rfl (any_of HT_.out (by kernel_rfl)) (fun _ _ _ h => h) (Or.inl ⟨by rfl, ?_⟩) ?_ ?_
  rotate_left
  · intro w'
    go_simp
    with_reducible rfl
  rotate_left
  · simp only [Act.put, List.setIfInBounds_toArray, List.set_cons_zero, List.set_cons_succ, i64_w, i32_w]
    rfl
  refine pure_ (i := 11) (N := some 15) (v := ?_) (a' := ?_) #[true, true, true, true, true, true, true, true, true, true, true, true, false] rfl rfl (any_of HT_.out (by kernel_rfl)) (fun _ _ _ h => h) (Or.inl ⟨by rfl, ?_⟩) ?_ ?_
  rotate_left
  · intro w'
    go_simp
    with_reducible rfl
  rotate_left
  · simp only [Act.put, List.setIfInBounds_toArray, List.set_cons_zero, List.set_cons_succ, i64_w, i32_w]
    rfl
  refine pure_ (i := 12) (N := some 16) (v := ?_) (a' := ?_) #[true, true, true, true, true, true, true, true, true, true, true, true, true] rfl rfl (any_of HT_.out (by kernel_rfl)) (fun _ _ _ h => h) (Or.inl ⟨by rfl, ?_⟩) ?_ ?_
  rotate_left
  · intro w'
    go_simp
    with_reducible rfl
  rotate_left
  · simp only [Act.put, List.setIfInBounds_toArray, List.set_cons_zero, List.set_cons_succ, i64_w, i32_w]
    rfl
  refine done_ (done_of HT_.out (by kernel_rfl)) ?_
  try clear hHeld
  have heq := eq_id
  obtain ⟨RA, rcap, hrc⟩ := HS7.out.cell
  obtain ⟨n, hn⟩ : ∃ n, n = M.length := ⟨_, rfl⟩
  have HN := Aside0.mk hn
  rw [List.length_map, ← hn] at hrc
  have HRC := Aside0.mk hrc
  have HRB : Aside0 (gR < w7.heap.size) := ⟨by obtain ⟨_, _, _, _, _, _, _, _, _, _, h4, _, _⟩ := HS7.out.ex; exact blk_lt h4.blk⟩
  clear hn hrc
  go_wp2_with fail
  refine start_ (n := 41) (S := fun w' => w'.cell? ⟨gw, 2, none⟩ = some (.pointer (some ⟨gR, 0, none⟩)) ∧ w'.cell? ⟨gR, 1, none⟩ = some (.slice RA n rcap) ∧ w'.cell? ⟨w3.heap.size, 0, none⟩ = some (.int .u8 ko.1) ∧ w'.cell? ⟨w3.heap.size, 1, none⟩ = some (.int .u8 ko.2.1) ∧ w'.cell? ⟨w3.heap.size, 2, none⟩ = some (.int .u8 ko.2.2.1) ∧ w'.cell? ⟨w3.heap.size, 3, none⟩ = some (.int .u8 ko.2.2.2.1) ∧ w'.cell? ⟨w3.heap.size, 4, none⟩ = some (.int .u8 ko.2.2.2.2.1) ∧ w'.cell? ⟨w3.heap.size, 5, none⟩ = some (.int .u8 ko.2.2.2.2.2.1) ∧ w'.cell? ⟨w3.heap.size, 6, none⟩ = some (.int .u8 ko.2.2.2.2.2.2.1) ∧ w'.cell? ⟨w3.heap.size, 7, none⟩ = some (.int .u8 ko.2.2.2.2.2.2.2) ∧ w'.cell? ⟨w1.heap.size, 0, none⟩ = some (.int .u8 ko.1) ∧ w'.cell? ⟨w1.heap.size, 1, none⟩ = some (.int .u8 ko.2.1) ∧ w'.cell? ⟨w1.heap.size, 2, none⟩ = some (.int .u8 ko.2.2.1) ∧ w'.cell? ⟨w1.heap.size, 3, none⟩ = some (.int .u8 ko.2.2.2.1) ∧ w'.cell? ⟨w1.heap.size, 4, none⟩ = some (.int .u8 ko.2.2.2.2.1) ∧ w'.cell? ⟨w1.heap.size, 5, none⟩ = some (.int .u8 ko.2.2.2.2.2.1) ∧ w'.cell? ⟨w1.heap.size, 6, none⟩ = some (.int .u8 ko.2.2.2.2.2.2.1) ∧ w'.cell? ⟨w1.heap.size, 7, none⟩ = some (.int .u8 ko.2.2.2.2.2.2.2) ∧ w'.cell? ⟨w1.heap.size, 8, none⟩ = some (.int .i64 ro)) (ds := []) #[false, false, false, false, false, false, false, false, false, false, false, false, false, false, false, false, false, false, false, false, false, false, false, false, false, false, false, false, false, false, false, false, false, false, false, false, false, false, false, false, false] (by kernel_rfl) rfl rfl ⟨(blk_cell HWB7.out 2).trans rfl, HRC.out, (blk_cell HK7.out 0).trans rfl, (blk_cell HK7.out 1).trans rfl, (blk_cell HK7.out 2).trans rfl, (blk_cell HK7.out 3).trans rfl, (blk_cell HK7.out 4).trans rfl, (blk_cell HK7.out 5).trans rfl, (blk_cell HK7.out 6).trans rfl, (blk_cell HK7.out 7).trans rfl, (blk_cell HR7.out 0).trans rfl, (blk_cell HR7.out 1).trans rfl, (blk_cell HR7.out 2).trans rfl, (blk_cell HR7.out 3).trans rfl, (blk_cell HR7.out 4).trans rfl, (blk_cell HR7.out 5).trans rfl, (blk_cell HR7.out 6).trans rfl, (blk_cell HR7.out 7).trans rfl, (blk_cell HR7.out 8).trans rfl⟩ (fun hHeld => ?_)
  refine with_tabW looks.tab6 looks.bits6 (fun HT_ HW_ => ?_)
  have HRC8 : Aside0 (w7.drew.cell? ⟨gR, 1, none⟩ = some (.slice RA n rcap)) := ⟨HRC.out⟩
  have hb : Below w7.heap.size w7 w7.drew := below_drew (Below.refl _ _)
  have HB8 := Aside0.mk (below_step HB7.out hb)
  have HS8 := Aside0.mk (HS7.out.below hb)
  have HWB8 := Aside0.mk ((hb.block _ (blk_lt HWB7.out)).trans HWB7.out)
  have HOX8 := Aside0.mk ((hb.block _ (blk_lt HOX7.out)).trans HOX7.out)
  have HR8 := Aside0.mk ((hb.block _ (blk_lt HR7.out)).trans HR7.out)
  have HK8 := Aside0.mk ((hb.block _ (blk_lt HK7.out)).trans HK7.out)
  clear hb
  generalize w7.drew = w8 at HB8 HS8 HWB8 HOX8 HR8 HK8 HRC8 hHeld ⊢
  refine pure_ (i := 0) (N := some 56) (v := ?_) (a' := ?_) #[true, false, false, false, false, false, false, false, false, false, false, false, false, false, false, false, false, false, false, false, false, false, false, false, false, false, false, false, false, false, false, false, false, false, false, false, false, false, false, false, false] rfl rfl (any_of HT_.out (by kernel_rfl)) (fun _ _ _ h => h) (Or.inl ⟨by rfl, ?_⟩) ?_ ?_
  rotate_left
  · intro w'
    go_simp
    with_reducible rfl
  rotate_left
  · simp only [Act.put, List.setIfInBounds_toArray, List.set_cons_zero, List.set_cons_succ, i64_w, i32_w]
    rfl
  refine pure_ (i := 1) (N := some 57) (v := ?_) (a' := ?_) #[true, true, false, false, false, false, false, false, false, false, false, false, false, false, false, false, false, false, false, false, false, false, false, false, false, false, false, false, false, false, false, false, false, false, false, false, false, false, false, false, false] rfl rfl (any_of HT_.out (by kernel_rfl)) (fun _ _ _ h => h) (Or.inl ⟨by rfl, ?_⟩) ?_ ?_
  rotate_left
  · intro w'
    go_simp
    with_reducible rfl
  rotate_left
  · simp only [Act.put, List.setIfInBounds_toArray, List.set_cons_zero, List.set_cons_succ, i64_w, i32_w]
    rfl
  refine pure_ (i := 2) (N := some 58) (v := ?_) (a' := ?_) #[true, true, true, false, false, false, false, false, false, false, false, false, false, false, false, false, false, false, false, false, false, false, false, false, false, false, false, false, false, false, false, false, false, false, false, false, false, false, false, false, false] rfl rfl (any_of HT_.out (by kernel_rfl)) (fun _ _ _ h => h) (Or.inl ⟨by rfl, ?_⟩) ?_ ?_
  rotate_left
  · intro w'
    go_simp
    with_reducible rfl
  rotate_left
  · simp only [Act.put, List.setIfInBounds_toArray, List.set_cons_zero, List.set_cons_succ, i64_w, i32_w]
    rfl
  refine pure_ (i := 3) (N := some 59) (v := ?_) (a' := ?_) #[true, true, true, true, false, false, false, false, false, false, false, false, false, false, false, false, false, false, false, false, false, false, false, false, false, false, false, false, false, false, false, false, false, false, false, false, false, false, false, false, false] rfl rfl (any_of HT_.out (by kernel_rfl)) (fun _ _ _ h => h) (Or.inl ⟨by rfl, ?_⟩) ?_ ?_
  rotate_left
  · intro w'
    go_simp
    with_reducible rfl
  rotate_left
  · simp only [Act.put, List.setIfInBounds_toArray, List.set_cons_zero, List.set_cons_succ, i64_w, i32_w]
    rfl
  refine pure_ (i := 5) (N := some 61) (v := ?_) (a' := ?_) #[true, true, true, true, false, true, false, false, false, false, false, false, false, false, false, false, false, false, false, false, false, false, false, false, false, false, false, false, false, false, false, false, false, false, false, false, false, false, false, false, false] rfl rfl (any_of HT_.out (by kernel_rfl)) (fun _ _ _ h => h) (Or.inl ⟨by rfl, ?_⟩) ?_ ?_
  rotate_left
  · intro w'
    go_simp
    with_reducible rfl
  rotate_left
  · simp only [Act.put, List.setIfInBounds_toArray, List.set_cons_zero, List.set_cons_succ, i64_w, i32_w]
    rfl
  refine take_ (i := 4) (N := some 60) (v := ?_) (a' := ?_) #[true, true, true, true, true, true, false, false, false, false, false, false, false, false, false, false, false, false, false, false, false, false, false, false, false, false, false, false, false, false, false, false, false, false, false, false, false, false, false, false, false] rfl rfl (take_ofW HT_.out HW_.out (by kernel_rfl)) (fun _ _ _ h => h) (Or.inl ⟨by rfl, ?_⟩) hHeld ?_ ?_
  rotate_left
  · rintro w' ⟨s0, s1, s2, s3, s4, s5, s6, s7, s8, s9, s10, s11, s12, s13, s14, s15, s16, s17, s18⟩
    go_simp
    with_reducible rfl
  rotate_left
  · simp only [Act.put, List.setIfInBounds_toArray, List.set_cons_zero, List.set_cons_succ, i64_w, i32_w]
    rfl
  refine take_ (i := 6) (N := some 62) (v := ?_) (a' := ?_) #[true, true, true, true, true, true, true, false, false, false, false, false, false, false, false, false, false, false, false, false, false, false, false, false, false, false, false, false, false, false, false, false, false, false, false, false, false, false, false, false, false] rfl rfl (take_ofW HT_.out HW_.out (by kernel_rfl)) (fun _ _ _ h => h) (Or.inl ⟨by rfl, ?_⟩) hHeld ?_ ?_
  rotate_left
  · rintro w' ⟨s0, s1, s2, s3, s4, s5, s6, s7, s8, s9, s10, s11, s12, s13, s14, s15, s16, s17, s18⟩
    go_simp
    with_reducible rfl
  rotate_left
  · simp only [Act.put, List.setIfInBounds_toArray, List.set_cons_zero, List.set_cons_succ, i64_w, i32_w]
    rfl
  refine pure_ (i := 7) (N := some 63) (v := ?_) (a' := ?_) #[true, true, true, true, true, true, true, true, false, false, false, false, false, false, false, false, false, false, false, false, false, false, false, false, false, false, false, false, false, false, false, false, false, false, false, false, false, false, false, false, false] rfl rfl (any_of HT_.out (by kernel_rfl)) (fun _ _ _ h => h) (Or.inl ⟨by rfl, ?_⟩) ?_ ?_
  rotate_left
  · intro w'
    go_simp
    with_reducible rfl
  rotate_left
  · simp only [Act.put, List.setIfInBounds_toArray, List.set_cons_zero, List.set_cons_succ, i64_w, i32_w]
    rfl
  refine pure_ (i := 8) (N := some 64) (v := ?_) (a' := ?_) #[true, true, true, true, true, true, true, true, true, false, false, false, false, false, false, false, false, false, false, false, false, false, false, false, false, false, false, false, false, false, false, false, false, false, false, false, false, false, false, false, false] rfl rfl (any_of HT_.out (by kernel_rfl)) (fun _ _ _ h => h) (Or.inl ⟨by rfl, ?_⟩) ?_ ?_
  rotate_left
  · intro w'
    go_simp
    with_reducible rfl
  rotate_left
  · simp only [Act.put, List.setIfInBounds_toArray, List.set_cons_zero, List.set_cons_succ, i64_w, i32_w]
    rfl
  refine pure_ (i := 9) (N := some 65) (v := ?_) (a' := ?_) #[true, true, true, true, true, true, true, true, true, true, false, false, false, false, false, false, false, false, false, false, false, false, false, false, false, false, false, false, false, false, false, false, false, false, false, false, false, false, false, false, false] rfl rfl (any_of HT_.out (by kernel_rfl)) (fun _ _ _ h => h) (Or.inl ⟨by rfl, ?_⟩) ?_ ?_
  rotate_left
  · intro w'
    go_simp
    with_reducible rfl
  rotate_left
  · simp only [Act.put, List.setIfInBounds_toArray, List.set_cons_zero, List.set_cons_succ, i64_w, i32_w]
    rfl
  refine pure_ (i := 10) (N := some 66) (v := ?_) (a' := ?_) #[true, true, true, true, true, true, true, true, true, true, true, false, false, false, false, false, false, false, false, false, false, false, false, false, false, false, false, false, false, false, false, false, false, false, false, false, false, false, false, false, false] rfl rfl (any_of HT_.out (by kernel_rfl)) (fun _ _ _ h => h) (Or.inl ⟨by rfl, ?_⟩) ?_ ?_
  rotate_left
  · intro w'
    go_simp
    with_reducible rfl
  rotate_left
  · simp only [Act.put, List.setIfInBounds_toArray, List.set_cons_zero, List.set_cons_succ, i64_w, i32_w]
    rfl
  refine pure_ (i := 11) (N := some 67) (v := ?_) (a' := ?_) #[true, true, true, true, true, true, true, true, true, true, true, true, false, false, false, false, false, false, false, false, false, false, false, false, false, false, false, false, false, false, false, false, false, false, false, false, false, false, false, false, false] rfl rfl (any_of HT_.out (by kernel_rfl)) (fun _ _ _ h => h) (Or.inl ⟨by rfl, ?_⟩) ?_ ?_
  rotate_left
  · intro w'
    go_simp
    with_reducible rfl
  rotate_left
  · simp only [Act.put, List.setIfInBounds_toArray, List.set_cons_zero, List.set_cons_succ, i64_w, i32_w]
    rfl
  refine take_ (i := 12) (N := some 68) (v := ?_) (a' := ?_) #[true, true, true, true, true, true, true, true, true, true, true, true, true, false, false, false, false, false, false, false, false, false, false, false, false, false, false, false, false, false, false, false, false, false, false, false, false, false, false, false, false] rfl rfl (take_ofW HT_.out HW_.out (by kernel_rfl)) (fun _ _ _ h => h) (Or.inl ⟨by rfl, ?_⟩) hHeld ?_ ?_
  rotate_left
  · rintro w' ⟨s0, s1, s2, s3, s4, s5, s6, s7, s8, s9, s10, s11, s12, s13, s14, s15, s16, s17, s18⟩
    go_simp
    with_reducible rfl
  rotate_left
  · simp only [Act.put, List.setIfInBounds_toArray, List.set_cons_zero, List.set_cons_succ, i64_w, i32_w]
    rfl
  refine pure_ (i := 13) (N := some 69) (v := ?_) (a' := ?_) #[true, true, true, true, true, true, true, true, true, true, true, true, true, true, false, false, false, false, false, false, false, false, false, false, false, false, false, false, false, false, false, false, false, false, false, false, false, false, false, false, false] rfl rfl (any_of HT_.out (by kernel_rfl)) (fun _ _ _ h => h) (Or.inl ⟨by rfl, ?_⟩) ?_ ?_
  rotate_left
  · intro w'
    go_simp
    with_reducible rfl
  rotate_left
  · simp only [Act.put, List.setIfInBounds_toArray, List.set_cons_zero, List.set_cons_succ, i64_w, i32_w]
    rfl
  refine pure_ (i := 14) (N := some 70) (v := ?_) (a' := ?_) #[true, true, true, true, true, true, true, true, true, true, true, true, true, true, true, false, false, false, false, false, false, false, false, false, false, false, false, false, false, false, false, false, false, false, false, false, false, false, false, false, false] rfl rfl (any_of HT_.out (by kernel_rfl)) (fun _ _ _ h => h) (Or.inl ⟨by rfl, ?_⟩) ?_ ?_
  rotate_left
  · intro w'
    go_simp
    with_reducible rfl
  rotate_left
  · simp only [Act.put, List.setIfInBounds_toArray, List.set_cons_zero, List.set_cons_succ, i64_w, i32_w]
    rfl
  refine pure_ (i := 15) (N := some 71) (v := ?_) (a' := ?_) #[true, true, true, true, true, true, true, true, true, true, true, true, true, true, true, true, false, false, false, false, false, false, false, false, false, false, false, false, false, false, false, false, false, false, false, false, false, false, false, false, false] rfl rfl (any_of HT_.out (by kernel_rfl)) (fun _ _ _ h => h) (Or.inl ⟨by rfl, ?_⟩) ?_ ?_
  rotate_left
  · intro w'
    go_simp
    with_reducible rfl
  rotate_left
  · simp only [Act.put, List.setIfInBounds_toArray, List.set_cons_zero, List.set_cons_succ, i64_w, i32_w]
    rfl
  refine pure_ (i := 16) (N := some 72) (v := ?_) (a' := ?_) #[true, true, true, true, true, true, true, true, true, true, true, true, true, true, true, true, true, false, false, false, false, false, false, false, false, false, false, false, false, false, false, false, false, false, false, false, false, false, false, false, false] rfl rfl (any_of HT_.out (by kernel_rfl)) (fun _ _ _ h => h) (Or.inl ⟨by rfl, ?_⟩) ?_ ?_
  rotate_left
  · intro w'
    go_simp
    with_reducible rfl
  rotate_left
  · simp only [Act.put, List.setIfInBounds_toArray, List.set_cons_zero, List.set_cons_succ, i64_w, i32_w]
    rfl
  refine pure_ (i := 17) (N := some 73) (v := ?_) (a' := ?_) #[true, true, true, true, true, true, true, true, true, true, true, true, true, true, true, true, true, true, false, false, false, false, false, false, false, false, false, false, false, false, false, false, false, false, false, false, false, false, false, false, false] rfl rfl (any_of HT_.out (by kernel_rfl)) (fun _ _ _ h => h) (Or.inl ⟨by rfl, ?_⟩) ?_ ?_
  rotate_left
  · intro w'
    go_simp
    with_reducible rfl
  rotate_left
  · simp only [Act.put, List.setIfInBounds_toArray, List.set_cons_zero, List.set_cons_succ, i64_w, i32_w]
    rfl
  refine pure_ (i := 18) (N := some 74) (v := ?_) (a' := ?_) #[true, true, true, true, true, true, true, true, true, true, true, true, true, true, true, true, true, true, true, false, false, false, false, false, false, false, false, false, false, false, false, false, false, false, false, false, false, false, false, false, false] rfl rfl (any_of HT_.out (by kernel_rfl)) (fun _ _ _ h => h) (Or.inl ⟨by rfl, ?_⟩) ?_ ?_
  rotate_left
  · intro w'
    go_simp
    with_reducible rfl
  rotate_left
  · simp only [Act.put, List.setIfInBounds_toArray, List.set_cons_zero, List.set_cons_succ, i64_w, i32_w]
    rfl
  refine pure_ (i := 19) (N := some 75) (v := ?_) (a' := ?_) #[true, true, true, true, true, true, true, true, true, true, true, true, true, true, true, true, true, true, true, true, false, false, false, false, false, false, false, false, false, false, false, false, false, false, false, false, false, false, false, false, false] rfl rfl (any_of HT_.out (by kernel_rfl)) (fun _ _ _ h => h) (Or.inl ⟨by rfl, ?_⟩) ?_ ?_
  rotate_left
  · intro w'
    go_simp
    with_reducible rfl
  rotate_left
  · simp only [Act.put, List.setIfInBounds_toArray, List.set_cons_zero, List.set_cons_succ, i64_w, i32_w]
    rfl
  refine pure_ (i := 20) (N := some 76) (v := ?_) (a' := ?_) #[true, true, true, true, true, true, true, true, true, true, true, true, true, true, true, true, true, true, true, true, true, false, false, false, false, false, false, false, false, false, false, false, false, false, false, false, false, false, false, false, false] rfl rfl (any_of HT_.out (by kernel_rfl)) (fun _ _ _ h => h) (Or.inl ⟨by rfl, ?_⟩) ?_ ?_
  rotate_left
  · intro w'
    go_simp
    with_reducible rfl
  rotate_left
  · simp only [Act.put, List.setIfInBounds_toArray, List.set_cons_zero, List.set_cons_succ, i64_w, i32_w]
    rfl
  refine pure_ (i := 21) (N := some 77) (v := ?_) (a' := ?_) #[true, true, true, true, true, true, true, true, true, true, true, true, true, true, true, true, true, true, true, true, true, true, false, false, false, false, false, false, false, false, false, false, false, false, false, false, false, false, false, false, false] rfl rfl (any_of HT_.out (by kernel_rfl)) (fun _ _ _ h => h) (Or.inl ⟨by rfl, ?_⟩) ?_ ?_
  rotate_left
  · intro w'
    go_simp
    with_reducible rfl
  rotate_left
  · simp only [Act.put, List.setIfInBounds_toArray, List.set_cons_zero, List.set_cons_succ, i64_w, i32_w]
    rfl
  refine pure_ (i := 22) (N := some 78) (v := ?_) (a' := ?_) #[true, true, true, true, true, true, true, true, true, true, true, true, true, true, true, true, true, true, true, true, true, true, true, false, false, false, false, false, false, false, false, false, false, false, false, false, false, false, false, false, false] rfl rfl (any_of HT_.out (by kernel_rfl)) (fun _ _ _ h => h) (Or.inl ⟨by rfl, ?_⟩) ?_ ?_
  rotate_left
  · intro w'
    go_simp
    with_reducible rfl
  rotate_left
  · simp only [Act.put, List.setIfInBounds_toArray, List.set_cons_zero, List.set_cons_succ, i64_w, i32_w]
    rfl
  refine pure_ (i := 23) (N := some 79) (v := ?_) (a' := ?_) #[true, true, true, true, true, true, true, true, true, true, true, true, true, true, true, true, true, true, true, true, true, true, true, true, false, false, false, false, false, false, false, false, false, false, false, false, false, false, false, false, false] rfl rfl (any_of HT_.out (by kernel_rfl)) (fun _ _ _ h => h) (Or.inl ⟨by rfl, ?_⟩) ?_ ?_
  rotate_left
  · intro w'
    go_simp
    with_reducible rfl
  rotate_left
  · simp only [Act.put, List.setIfInBounds_toArray, List.set_cons_zero, List.set_cons_succ, i64_w, i32_w]
    rfl
  refine pure_ (i := 24) (N := some 80) (v := ?_) (a' := ?_) #[true, true, true, true, true, true, true, true, true, true, true, true, true, true, true, true, true, true, true, true, true, true, true, true, true, false, false, false, false, false, false, false, false, false, false, false, false, false, false, false, false] rfl rfl (any_of HT_.out (by kernel_rfl)) (fun _ _ _ h => h) (Or.inl ⟨by rfl, ?_⟩) ?_ ?_
  rotate_left
  · intro w'
    go_simp
    with_reducible rfl
  rotate_left
  · simp only [Act.put, List.setIfInBounds_toArray, List.set_cons_zero, List.set_cons_succ, i64_w, i32_w]
    rfl
  refine pure_ (i := 25) (N := some 81) (v := ?_) (a' := ?_) #[true, true, true, true, true, true, true, true, true, true, true, true, true, true, true, true, true, true, true, true, true, true, true, true, true, true, false, false, false, false, false, false, false, false, false, false, false, false, false, false, false] rfl rfl (any_of HT_.out (by kernel_rfl)) (fun _ _ _ h => h) (Or.inl ⟨by rfl, ?_⟩) ?_ ?_
  rotate_left
  · intro w'
    go_simp
    with_reducible rfl
  rotate_left
  · simp only [Act.put, List.setIfInBounds_toArray, List.set_cons_zero, List.set_cons_succ, i64_w, i32_w]
    rfl
  refine pure_ (i := 26) (N := some 82) (v := ?_) (a' := ?_) #[true, true, true, true, true, true, true, true, true, true, true, true, true, true, true, true, true, true, true, true, true, true, true, true, true, true, true, false, false, false, false, false, false, false, false, false, false, false, false, false, false] rfl rfl (any_of HT_.out (by kernel_rfl)) (fun _ _ _ h => h) (Or.inl ⟨by rfl, ?_⟩) ?_ ?_
  rotate_left
  · intro w'
    go_simp
    with_reducible rfl
  rotate_left
  · simp only [Act.put, List.setIfInBounds_toArray, List.set_cons_zero, List.set_cons_succ, i64_w, i32_w]
    rfl
  refine pure_ (i := 28) (N := some 84) (v := ?_) (a' := ?_) #[true, true, true, true, true, true, true, true, true, true, true, true, true, true, true, true, true, true, true, true, true, true, true, true, true, true, true, false, true, false, false, false, false, false, false, false, false, false, false, false, false] rfl rfl (any_of HT_.out (by kernel_rfl)) (fun _ _ _ h => h) (Or.inl ⟨by rfl, ?_⟩) ?_ ?_
  rotate_left
  · intro w'
    go_simp
    with_reducible rfl
  rotate_left
  · simp only [Act.put, List.setIfInBounds_toArray, List.set_cons_zero, List.set_cons_succ, i64_w, i32_w]
    rfl
  refine pure_ (i := 29) (N := some 85) (v := ?_) (a' := ?_) #[true, true, true, true, true, true, true, true, true, true, true, true, true, true, true, true, true, true, true, true, true, true, true, true, true, true, true, false, true, true, false, false, false, false, false, false, false, false, false, false, false] rfl rfl (any_of HT_.out (by kernel_rfl)) (fun _ _ _ h => h) (Or.inl ⟨by rfl, ?_⟩) ?_ ?_
  rotate_left
  · intro w'
    go_simp
    with_reducible rfl
  rotate_left
  · simp only [Act.put, List.setIfInBounds_toArray, List.set_cons_zero, List.set_cons_succ, i64_w, i32_w]
    rfl
  refine pure_ (i := 30) (N := some 86) (v := ?_) (a' := ?_) #[true, true, true, true, true, true, true, true, true, true, true, true, true, true, true, true, true, true, true, true, true, true, true, true, true, true, true, false, true, true, true, false, false, false, false, false, false, false, false, false, false] rfl rfl (any_of HT_.out (by kernel_rfl)) (fun _ _ _ h => h) (Or.inl ⟨by rfl, ?_⟩) ?_ ?_
  rotate_left
  · intro w'
    go_simp
    with_reducible rfl
  rotate_left
  · simp only [Act.put, List.setIfInBounds_toArray, List.set_cons_zero, List.set_cons_succ, i64_w, i32_w]
    rfl
  refine pure_ (i := 31) (N := some 87) (v := ?_) (a' := ?_) #[true, true, true, true, true, true, true, true, true, true, true, true, true, true, true, true, true, true, true, true, true, true, true, true, true, true, true, false, true, true, true, true, false, false, false, false, false, false, false, false, false] rfl rfl (any_of HT_.out (by kernel_rfl)) (fun _ _ _ h => h) (Or.inl ⟨by rfl, ?_⟩) ?_ ?_
  rotate_left
  · intro w'
    go_simp
    with_reducible rfl
  rotate_left
  · simp only [Act.put, List.setIfInBounds_toArray, List.set_cons_zero, List.set_cons_succ, i64_w, i32_w]
    rfl
  refine pure_ (i := 32) (N := some 88) (v := ?_) (a' := ?_) #[true, true, true, true, true, true, true, true, true, true, true, true, true, true, true, true, true, true, true, true, true, true, true, true, true, true, true, false, true, true, true, true, true, false, false, false, false, false, false, false, false] rfl rfl (any_of HT_.out (by kernel_rfl)) (fun _ _ _ h => h) (Or.inl ⟨by rfl, ?_⟩) ?_ ?_
  rotate_left
  · intro w'
    go_simp
    with_reducible rfl
  rotate_left
  · simp only [Act.put, List.setIfInBounds_toArray, List.set_cons_zero, List.set_cons_succ, i64_w, i32_w]
    rfl
  refine take_ (i := 33) (N := some 89) (v := ?_) (a' := ?_) #[true, true, true, true, true, true, true, true, true, true, true, true, true, true, true, true, true, true, true, true, true, true, true, true, true, true, true, false, true, true, true, true, true, true, false, false, false, false, false, false, false] rfl rfl (take_ofW HT_.out HW_.out (by kernel_rfl)) (fun _ _ _ h => h) (Or.inl ⟨by rfl, ?_⟩) hHeld ?_ ?_
  rotate_left
  · rintro w' ⟨s0, s1, s2, s3, s4, s5, s6, s7, s8, s9, s10, s11, s12, s13, s14, s15, s16, s17, s18⟩
    go_simp
    with_reducible rfl
  rotate_left
  · simp only [Act.put, List.setIfInBounds_toArray, List.set_cons_zero, List.set_cons_succ, i64_w, i32_w]
    rfl
  refine pure_ (i := 34) (N := some 90) (v := ?_) (a' := ?_) #[true, true, true, true, true, true, true, true, true, true, true, true, true, true, true, true, true, true, true, true, true, true, true, true, true, true, true, false, true, true, true, true, true, true, true, false, false, false, false, false, false] rfl rfl (any_of HT_.out (by kernel_rfl)) (fun _ _ _ h => h) (Or.inl ⟨by rfl, ?_⟩) ?_ ?_
  rotate_left
  · intro w'
    go_simp
    with_reducible rfl
  rotate_left
  · simp only [Act.put, List.setIfInBounds_toArray, List.set_cons_zero, List.set_cons_succ, i64_w, i32_w]
    rfl
  refine pure_ (i := 35) (N := some 91) (v := ?_) (a' := ?_) #[true, true, true, true, true, true, true, true, true, true, true, true, true, true, true, true, true, true, true, true, true, true, true, true, true, true, true, false, true, true, true, true, true, true, true, true, false, false, false, false, false] rfl rfl (any_of HT_.out (by kernel_rfl)) (fun _ _ _ h => h) (Or.inl ⟨by rfl, ?_⟩) ?_ ?_
  rotate_left
  · intro w'
    go_simp
    with_reducible rfl
  rotate_left
  · simp only [Act.put, List.setIfInBounds_toArray, List.set_cons_zero, List.set_cons_succ, i64_w, i32_w]
    rfl
  refine take_ (i := 36) (N := some 92) (v := ?_) (a' := ?_) #[true, true, true, true, true, true, true, true, true, true, true, true, true, true, true, true, true, true, true, true, true, true, true, true, true, true, true, false, true, true, true, true, true, true, true, true, true, false, false, false, false] rfl rfl (take_ofW HT_.out HW_.out (by kernel_rfl)) (fun _ _ _ h => h) (Or.inl ⟨by rfl, ?_⟩) hHeld ?_ ?_
  rotate_left
  · rintro w' ⟨s0, s1, s2, s3, s4, s5, s6, s7, s8, s9, s10, s11, s12, s13, s14, s15, s16, s17, s18⟩
    go_simp
    with_reducible rfl
  rotate_left
  · simp only [Act.put, List.setIfInBounds_toArray, List.set_cons_zero, List.set_cons_succ, i64_w, i32_w]
    rfl
  refine pure_ (i := 37) (N := some 93) (v := ?_) (a' := ?_) #[true, true, true, true, true, true, true, true, true, true, true, true, true, true, true, true, true, true, true, true, true, true, true, true, true, true, true, false, true, true, true, true, true, true, true, true, true, true, false, false, false] rfl rfl (any_of HT_.out (by kernel_rfl)) (fun _ _ _ h => h) (Or.inl ⟨by rfl, ?_⟩) ?_ ?_
  rotate_left
  · intro w'
    go_simp
    with_reducible rfl
  rotate_left
  · simp only [Act.put, List.setIfInBounds_toArray, List.set_cons_zero, List.set_cons_succ, i64_w, i32_w]
    rfl
  refine one_ (i := 27) (N := some 83) #[true, true, true, true, true, true, true, true, true, true, true, true, true, true, true, true, true, true, true, true, true, true, true, true, true, true, true, true, true, true, true, true, true, true, true, true, true, true, false, false, false] rfl rfl (one_of HT_.out (by kernel_rfl)) (by decide) (fun K hK => ?_)
  refine goes_ Try.func40 (by kernel_rfl) rfl #[.pointer (some ⟨gH, 0, none⟩)] (by rfl) rfl rfl (by simp only [List.map_toArray, List.map_cons, List.map_nil]; rfl) ?_
  with_reducible refine (hlen_slot HS8.out).mono ?_
  rintro e w9 ⟨rfl, rfl⟩
  refine ⟨_, rfl, ?_⟩
  rw [← HN.out]
  refine hK.out _ _ ⟨(blk_cell HWB8.out 2).trans rfl, HRC8.out, (blk_cell HK8.out 0).trans rfl, (blk_cell HK8.out 1).trans rfl, (blk_cell HK8.out 2).trans rfl, (blk_cell HK8.out 3).trans rfl, (blk_cell HK8.out 4).trans rfl, (blk_cell HK8.out 5).trans rfl, (blk_cell HK8.out 6).trans rfl, (blk_cell HK8.out 7).trans rfl, (blk_cell HR8.out 0).trans rfl, (blk_cell HR8.out 1).trans rfl, (blk_cell HR8.out 2).trans rfl, (blk_cell HR8.out 3).trans rfl, (blk_cell HR8.out 4).trans rfl, (blk_cell HR8.out 5).trans rfl, (blk_cell HR8.out 6).trans rfl, (blk_cell HR8.out 7).trans rfl, (blk_cell HR8.out 8).trans rfl⟩ (fun hHeld => ?_)
  clear hK K
  refine norm_ (a' := ?_) ?_ ?_
  rotate_left
  · show Act.put _ (some 83) _ = _
    simp only [Act.put, List.setIfInBounds_toArray, List.set_cons_zero, List.set_cons_succ, i64_w, i32_w]
    rfl
  refine pure_ (i := 38) (N := some 94) (v := ?_) (a' := ?_) #[true, true, true, true, true, true, true, true, true, true, true, true, true, true, true, true, true, true, true, true, true, true, true, true, true, true, true, true, true, true, true, true, true, true, true, true, true, true, true, false, false] rfl rfl (any_of HT_.out (by kernel_rfl)) (fun _ _ _ h => h) (Or.inl ⟨by rfl, ?_⟩) ?_ ?_
  rotate_left
  · intro w'
    go_simp
    with_reducible rfl
  rotate_left
  · simp only [Act.put, List.setIfInBounds_toArray, List.set_cons_zero, List.set_cons_succ, i64_w, i32_w]
    rfl
  refine pure_ (i := 39) (N := some 95) (v := ?_) (a' := ?_) #[true, true, true, true, true, true, true, true, true, true, true, true, true, true, true, true, true, true, true, true, true, true, true, true, true, true, true, true, true, true, true, true, true, true, true, true, true, true, true, true, false] rfl rfl (any_of HT_.out (by kernel_rfl)) (fun _ _ _ h => h) (Or.inl ⟨by rfl, ?_⟩) ?_ ?_
  rotate_left
  · intro w'
    go_simp
    with_reducible rfl
  rotate_left
  · simp only [Act.put, List.setIfInBounds_toArray, List.set_cons_zero, List.set_cons_succ, i64_w, i32_w]
    rfl
  refine pure_ (i := 40) (N := some 6) (v := ?_) (a' := ?_) #[true, true, true, true, true, true, true, true, true, true, true, true, true, true, true, true, true, true, true, true, true, true, true, true, true, true, true, true, true, true, true, true, true, true, true, true, true, true, true, true, true] rfl rfl (any_of HT_.out (by kernel_rfl)) (fun _ _ _ h => h) (Or.inl ⟨by rfl, ?_⟩) ?_ ?_
  rotate_left
  · intro w'
    go_simp
    with_reducible rfl
  rotate_left
  · simp only [Act.put, List.setIfInBounds_toArray, List.set_cons_zero, List.set_cons_succ, i64_w, i32_w]
    rfl
  refine done_ (done_of HT_.out (by kernel_rfl)) ?_
  try clear hHeld
  go_wp2
  go_ret
  exact ⟨by first | rfl | (simp; done), HB8.out⟩
set_option maxHeartbeats 8000000 in
set_option maxRecDepth 100000 in
theorem looks1 {w : World} {base gw gH gR : Nat} {ord : Int} {M : List It} {c : Nat} {F : Nat → Prop} {p0 p2 : Value} (key : Kt) (h : Slot w base gH gR ord M c (M.map pairOf) F) (hW : w.heap[gw]? = some (.cells #[p0, (.pointer (some ⟨gH, 0, none⟩)), p2, (.pointer (some ⟨gR, 0, none⟩))] 29 (0, 0))) (hk : okK key) (hc : c < 4000000000000) (hM : M.length ≤ c) (hb : base ≤ w.heap.size) :
    Calls Try.prog 10 #[.pointer (some ⟨gw, 0, none⟩), .int .i64 1, .agg #[.int .u8 key.1, .int .u8 key.2.1, .int .u8 key.2.2.1, .int .u8 key.2.2.2.1, .int .u8 key.2.2.2.2.1, .int .u8 key.2.2.2.2.2.1, .int .u8 key.2.2.2.2.2.2.1, .int .u8 key.2.2.2.2.2.2.2]] w fun e w' => e = .returned (.bool true) ∧ Below w.heap.size w w' := by
  have H := Aside0.mk h
  have HW := Aside0.mk hW
  have HK := Aside0.mk hk
  have HC := Aside0.mk hc
  have HM := Aside0.mk hM
  have HML : Aside0 ((M.map pairOf).length ≤ 4000000000000) := ⟨by rw [List.length_map]; omega⟩
  have HBS := Aside0.mk hb
  have HGW : Aside0 (gw < w.heap.size) := ⟨blk_lt hW⟩
  clear h hW hk hc hM hb
  go_enter Try.func10, Try.ntmps10
  go_upto_region 1 with (fail)
  have HOX : Aside0 ((w.alloc (.cells #[.int .u8 key.1, .int .u8 key.2.1, .int .u8 key.2.2.1, .int .u8 key.2.2.2.1, .int .u8 key.2.2.2.2.1, .int .u8 key.2.2.2.2.2.1, .int .u8 key.2.2.2.2.2.2.1, .int .u8 key.2.2.2.2.2.2.2] 33)).heap[w.heap.size]? = some (.cells #[.int .u8 key.1, .int .u8 key.2.1, .int .u8 key.2.2.1, .int .u8 key.2.2.2.1, .int .u8 key.2.2.2.2.1, .int .u8 key.2.2.2.2.2.1, .int .u8 key.2.2.2.2.2.2.1, .int .u8 key.2.2.2.2.2.2.2] 33)) := ⟨blk_new _ _⟩
  have HBB : Aside0 (Below w.heap.size w (w.alloc (.cells #[.int .u8 key.1, .int .u8 key.2.1, .int .u8 key.2.2.1, .int .u8 key.2.2.2.1, .int .u8 key.2.2.2.2.1, .int .u8 key.2.2.2.2.2.1, .int .u8 key.2.2.2.2.2.2.1, .int .u8 key.2.2.2.2.2.2.2] 33))) := ⟨below_alloc (Below.refl _ _) _⟩
  have HS := Aside0.mk (H.out.below HBB.out)
  have HWB := Aside0.mk ((HBB.out.block _ HGW.out).trans HW.out)
  generalize w.alloc (.cells #[.int .u8 key.1, .int .u8 key.2.1, .int .u8 key.2.2.1, .int .u8 key.2.2.2.1, .int .u8 key.2.2.2.2.1, .int .u8 key.2.2.2.2.2.1, .int .u8 key.2.2.2.2.2.2.1, .int .u8 key.2.2.2.2.2.2.2] 33) = wB at HOX HBB HS HWB ⊢
  have hcW1 := (blk_cell HWB.out 3).trans rfl
  go_wp2_with fail
  refine (rfirst_slot HS.out HML.out (Nat.le_trans HBS.out HBB.out.size)).mono ?_
  rintro e w1 ⟨rfl, hb⟩
  have HB1 := Aside0.mk (below_step HBB.out hb)
  have HS1 := Aside0.mk (HS.out.below hb)
  have HWB1 := Aside0.mk ((hb.block _ (blk_lt HWB.out)).trans HWB.out)
  have HOX1 := Aside0.mk ((hb.block _ (blk_lt HOX.out)).trans HOX.out)
  have HX1 := Aside0.mk (blk_new w1 (.cells #[.int .u8 0, .int .u8 0, .int .u8 0, .int .u8 0, .int .u8 0, .int .u8 0, .int .u8 0, .int .u8 0, .int .i64 0] 87))
  obtain ⟨ok, hok⟩ : ∃ ok, ok = (fstM ord M).isSome := ⟨_, rfl⟩
  obtain ⟨ko, hko⟩ : ∃ ko, ko = keyO ord M := ⟨_, rfl⟩
  obtain ⟨ro, hro⟩ : ∃ ro, ro = rankO ord M := ⟨_, rfl⟩
  obtain ⟨rk, hrk⟩ : ∃ rk, rk = rkO M key := ⟨_, rfl⟩
  obtain ⟨rok, hrok⟩ : ∃ rok, rok = (idxL M key).isSome := ⟨_, rfl⟩
  have HOKR := Aside0.mk (And.intro hok (And.intro hko (And.intro hro (And.intro hrk hrok))))
  rw [fst_map, item_map, ← hok, ← hko, ← hro]
  clear hb hok hko hro hrk hrok hcW1
  go_upto_region 2 with ((with_reducible refine gate_store (t := 87) (p := 7) (v := .tmp 25) rfl ?_); refine wpList_store_row rfl 87 (.tmp 7) (.tmp 25) rfl w1.heap.size #[.int .u8 ko.1, .int .u8 ko.2.1, .int .u8 ko.2.2.1, .int .u8 ko.2.2.2.1, .int .u8 ko.2.2.2.2.1, .int .u8 ko.2.2.2.2.2.1, .int .u8 ko.2.2.2.2.2.2.1, .int .u8 ko.2.2.2.2.2.2.2, .int .i64 ro] rfl rfl _ _ HX1.out infoRI' rfl (by simp [Value.oneCell']) ?_; have hs := chg_row (cs := #[.int .u8 ko.1, .int .u8 ko.2.1, .int .u8 ko.2.2.1, .int .u8 ko.2.2.2.1, .int .u8 ko.2.2.2.2.1, .int .u8 ko.2.2.2.2.2.1, .int .u8 ko.2.2.2.2.2.2.1, .int .u8 ko.2.2.2.2.2.2.2, .int .i64 ro]) HX1.out; have HR2 := Aside0.mk hs.1; have hsc := (Chg.of_below (F := (fun _ => False)) (below_alloc (Below.refl w1.heap.size w1) (.cells #[.int .u8 0, .int .u8 0, .int .u8 0, .int .u8 0, .int .u8 0, .int .u8 0, .int .u8 0, .int .u8 0, .int .i64 0] 87))).then hs.2 (fun i hi => Or.inr (Nat.le_of_eq (Eq.symm hi))); have hbq : Below w1.heap.size w1 ((w1.alloc (.cells #[.int .u8 0, .int .u8 0, .int .u8 0, .int .u8 0, .int .u8 0, .int .u8 0, .int .u8 0, .int .u8 0, .int .i64 0] 87)).setRow w1.heap.size #[.int .u8 ko.1, .int .u8 ko.2.1, .int .u8 ko.2.2.1, .int .u8 ko.2.2.2.1, .int .u8 ko.2.2.2.2.1, .int .u8 ko.2.2.2.2.2.1, .int .u8 ko.2.2.2.2.2.2.1, .int .u8 ko.2.2.2.2.2.2.2, .int .i64 ro]) := hsc.below (Nat.le_refl _) (fun _ q => q.elim); have HB2 := Aside0.mk (below_step HB1.out hbq); have HS2 := Aside0.mk (HS1.out.below hbq); have HWB2 := Aside0.mk ((hbq.block _ (blk_lt HWB1.out)).trans HWB1.out); have HOX2 := Aside0.mk ((hbq.block _ (blk_lt HOX1.out)).trans HOX1.out); clear hbq hsc HB1; clear hs; generalize (w1.alloc (.cells #[.int .u8 0, .int .u8 0, .int .u8 0, .int .u8 0, .int .u8 0, .int .u8 0, .int .u8 0, .int .u8 0, .int .i64 0] 87)).setRow w1.heap.size #[.int .u8 ko.1, .int .u8 ko.2.1, .int .u8 ko.2.2.1, .int .u8 ko.2.2.2.1, .int .u8 ko.2.2.2.2.1, .int .u8 ko.2.2.2.2.2.1, .int .u8 ko.2.2.2.2.2.2.1, .int .u8 ko.2.2.2.2.2.2.2, .int .i64 ro] = w2 at HR2 HB2 HS2 HWB2 HOX2 ⊢)
  have hcW0 := (blk_cell HWB2.out 1).trans rfl
  go_wp2_with fail
  refine (hfirst_slot HS2.out HC.out HM.out).mono ?_
  rintro e w3 ⟨rfl, hb⟩
  have HB3 := Aside0.mk (below_step HB2.out hb)
  have HS3 := Aside0.mk (HS2.out.below hb)
  have HWB3 := Aside0.mk ((hb.block _ (blk_lt HWB2.out)).trans HWB2.out)
  have HOX3 := Aside0.mk ((hb.block _ (blk_lt HOX2.out)).trans HOX2.out)
  have HR3 := Aside0.mk ((hb.block _ (blk_lt HR2.out)).trans HR2.out)
  have HX3 := Aside0.mk (blk_new w3 (.cells #[.int .u8 0, .int .u8 0, .int .u8 0, .int .u8 0, .int .u8 0, .int .u8 0, .int .u8 0, .int .u8 0] 33))
  rw [← HOKR.out.1, ← HOKR.out.2.1, ← HOKR.out.2.2.1]
  clear hb HB2 hcW0
  go_upto_region 4 with ((with_reducible refine gate_store (t := 33) (p := 10) (v := .tmp 36) rfl ?_); refine wpList_store_row rfl 33 (.tmp 10) (.tmp 36) rfl w3.heap.size #[.int .u8 ko.1, .int .u8 ko.2.1, .int .u8 ko.2.2.1, .int .u8 ko.2.2.2.1, .int .u8 ko.2.2.2.2.1, .int .u8 ko.2.2.2.2.2.1, .int .u8 ko.2.2.2.2.2.2.1, .int .u8 ko.2.2.2.2.2.2.2] rfl rfl _ _ HX3.out infoK rfl (by simp [Value.oneCell']) ?_; have hs := chg_row (cs := #[.int .u8 ko.1, .int .u8 ko.2.1, .int .u8 ko.2.2.1, .int .u8 ko.2.2.2.1, .int .u8 ko.2.2.2.2.1, .int .u8 ko.2.2.2.2.2.1, .int .u8 ko.2.2.2.2.2.2.1, .int .u8 ko.2.2.2.2.2.2.2]) HX3.out; have HK4 := Aside0.mk hs.1; have hsc := (Chg.of_below (F := (fun _ => False)) (below_alloc (Below.refl w3.heap.size w3) (.cells #[.int .u8 0, .int .u8 0, .int .u8 0, .int .u8 0, .int .u8 0, .int .u8 0, .int .u8 0, .int .u8 0] 33))).then hs.2 (fun i hi => Or.inr (Nat.le_of_eq (Eq.symm hi))); have hbq : Below w3.heap.size w3 ((w3.alloc (.cells #[.int .u8 0, .int .u8 0, .int .u8 0, .int .u8 0, .int .u8 0, .int .u8 0, .int .u8 0, .int .u8 0] 33)).setRow w3.heap.size #[.int .u8 ko.1, .int .u8 ko.2.1, .int .u8 ko.2.2.1, .int .u8 ko.2.2.2.1, .int .u8 ko.2.2.2.2.1, .int .u8 ko.2.2.2.2.2.1, .int .u8 ko.2.2.2.2.2.2.1, .int .u8 ko.2.2.2.2.2.2.2]) := hsc.below (Nat.le_refl _) (fun _ q => q.elim); have HB4 := Aside0.mk (below_step HB3.out hbq); have HS4 := Aside0.mk (HS3.out.below hbq); have HWB4 := Aside0.mk ((hbq.block _ (blk_lt HWB3.out)).trans HWB3.out); have HOX4 := Aside0.mk ((hbq.block _ (blk_lt HOX3.out)).trans HOX3.out); have HR4 := Aside0.mk ((hbq.block _ (blk_lt HR3.out)).trans HR3.out); clear hbq hsc HB3; clear hs; generalize (w3.alloc (.cells #[.int .u8 0, .int .u8 0, .int .u8 0, .int .u8 0, .int .u8 0, .int .u8 0, .int .u8 0, .int .u8 0] 33)).setRow w3.heap.size #[.int .u8 ko.1, .int .u8 ko.2.1, .int .u8 ko.2.2.1, .int .u8 ko.2.2.2.1, .int .u8 ko.2.2.2.2.1, .int .u8 ko.2.2.2.2.2.1, .int .u8 ko.2.2.2.2.2.2.1, .int .u8 ko.2.2.2.2.2.2.2] = w4 at HK4 HB4 HS4 HWB4 HOX4 HR4 ⊢)
  have hcO0 : w4.cell? ⟨w.heap.size, 0, none⟩ = some (.int .u8 key.1) := (blk_cell HOX4.out 0).trans rfl
  have hcO1 : w4.cell? ⟨w.heap.size, 1, none⟩ = some (.int .u8 key.2.1) := (blk_cell HOX4.out 1).trans rfl
  have hcO2 : w4.cell? ⟨w.heap.size, 2, none⟩ = some (.int .u8 key.2.2.1) := (blk_cell HOX4.out 2).trans rfl
  have hcO3 : w4.cell? ⟨w.heap.size, 3, none⟩ = some (.int .u8 key.2.2.2.1) := (blk_cell HOX4.out 3).trans rfl
  have hcO4 : w4.cell? ⟨w.heap.size, 4, none⟩ = some (.int .u8 key.2.2.2.2.1) := (blk_cell HOX4.out 4).trans rfl
  have hcO5 : w4.cell? ⟨w.heap.size, 5, none⟩ = some (.int .u8 key.2.2.2.2.2.1) := (blk_cell HOX4.out 5).trans rfl
  have hcO6 : w4.cell? ⟨w.heap.size, 6, none⟩ = some (.int .u8 key.2.2.2.2.2.2.1) := (blk_cell HOX4.out 6).trans rfl
  have hcO7 : w4.cell? ⟨w.heap.size, 7, none⟩ = some (.int .u8 key.2.2.2.2.2.2.2) := (blk_cell HOX4.out 7).trans rfl
  go_wp2_with fail
  refine (hrank_w HS4.out key HK.out).mono ?_
  rintro e w5 ⟨rfl, hb⟩
  have HB5 := Aside0.mk (below_step HB4.out hb)
  have HS5 := Aside0.mk (HS4.out.below hb)
  have HWB5 := Aside0.mk ((hb.block _ (blk_lt HWB4.out)).trans HWB4.out)
  have HOX5 := Aside0.mk ((hb.block _ (blk_lt HOX4.out)).trans HOX4.out)
  have HR5 := Aside0.mk ((hb.block _ (blk_lt HR4.out)).trans HR4.out)
  have HK5 := Aside0.mk ((hb.block _ (blk_lt HK4.out)).trans HK4.out)
  rw [← HOKR.out.2.2.2.1, ← HOKR.out.2.2.2.2]
  clear hb HB4 hcO0 hcO1 hcO2 hcO3 hcO4 hcO5 hcO6 hcO7
  go_wp2_with fail
  refine start_ (n := 13) (S := fun w' => w'.cell? ⟨gw, 3, none⟩ = some (.pointer (some ⟨gR, 0, none⟩)) ∧ w'.cell? ⟨w.heap.size, 0, none⟩ = some (.int .u8 key.1) ∧ w'.cell? ⟨w.heap.size, 1, none⟩ = some (.int .u8 key.2.1) ∧ w'.cell? ⟨w.heap.size, 2, none⟩ = some (.int .u8 key.2.2.1) ∧ w'.cell? ⟨w.heap.size, 3, none⟩ = some (.int .u8 key.2.2.2.1) ∧ w'.cell? ⟨w.heap.size, 4, none⟩ = some (.int .u8 key.2.2.2.2.1) ∧ w'.cell? ⟨w.heap.size, 5, none⟩ = some (.int .u8 key.2.2.2.2.2.1) ∧ w'.cell? ⟨w.heap.size, 6, none⟩ = some (.int .u8 key.2.2.2.2.2.2.1) ∧ w'.cell? ⟨w.heap.size, 7, none⟩ = some (.int .u8 key.2.2.2.2.2.2.2)) (ds := []) #[false, false, false, false, false, false, false, false, false, false, false, false, false] (by kernel_rfl) rfl rfl ⟨(blk_cell HWB5.out 3).trans rfl, (blk_cell HOX5.out 0).trans rfl, (blk_cell HOX5.out 1).trans rfl, (blk_cell HOX5.out 2).trans rfl, (blk_cell HOX5.out 3).trans rfl, (blk_cell HOX5.out 4).trans rfl, (blk_cell HOX5.out 5).trans rfl, (blk_cell HOX5.out 6).trans rfl, (blk_cell HOX5.out 7).trans rfl⟩ (fun hHeld => ?_)
  refine with_tabW looks.tab5 looks.bits5 (fun HT_ HW_ => ?_)
  have hb : Below w5.heap.size w5 w5.drew := below_drew (Below.refl _ _)
  have HB6 := Aside0.mk (below_step HB5.out hb)
  have HS6 := Aside0.mk (HS5.out.below hb)
  have HWB6 := Aside0.mk ((hb.block _ (blk_lt HWB5.out)).trans HWB5.out)
  have HOX6 := Aside0.mk ((hb.block _ (blk_lt HOX5.out)).trans HOX5.out)
  have HR6 := Aside0.mk ((hb.block _ (blk_lt HR5.out)).trans HR5.out)
  have HK6 := Aside0.mk ((hb.block _ (blk_lt HK5.out)).trans HK5.out)
  clear hb
  generalize w5.drew = w6 at HB6 HS6 HWB6 HOX6 HR6 HK6 hHeld ⊢
  refine pure_ (i := 0) (N := some 46) (v := ?_) (a' := ?_) #[true, false, false, false, false, false, false, false, false, false, false, false, false] rfl rfl (any_of HT_.out (by kernel_rfl)) (fun _ _ _ h => h) (Or.inl ⟨by rfl, ?_⟩) ?_ ?_
  rotate_left
  · intro w'
    go_simp
    with_reducible rfl
  rotate_left
  · simp only [Act.put, List.setIfInBounds_toArray, List.set_cons_zero, List.set_cons_succ, i64_w, i32_w]
    rfl
  refine pure_ (i := 1) (N := some 47) (v := ?_) (a' := ?_) #[true, true, false, false, false, false, false, false, false, false, false, false, false] rfl rfl (any_of HT_.out (by kernel_rfl)) (fun _ _ _ h => h) (Or.inl ⟨by rfl, ?_⟩) ?_ ?_
  rotate_left
  · intro w'
    go_simp
    with_reducible rfl
  rotate_left
  · simp only [Act.put, List.setIfInBounds_toArray, List.set_cons_zero, List.set_cons_succ, i64_w, i32_w]
    rfl
  refine pure_ (i := 2) (N := some 48) (v := ?_) (a' := ?_) #[true, true, true, false, false, false, false, false, false, false, false, false, false] rfl rfl (any_of HT_.out (by kernel_rfl)) (fun _ _ _ h => h) (Or.inl ⟨by rfl, ?_⟩) ?_ ?_
  rotate_left
  · intro w'
    go_simp
    with_reducible rfl
  rotate_left
  · simp only [Act.put, List.setIfInBounds_toArray, List.set_cons_zero, List.set_cons_succ, i64_w, i32_w]
    rfl
  refine pure_ (i := 3) (N := some 49) (v := ?_) (a' := ?_) #[true, true, true, true, false, false, false, false, false, false, false, false, false] rfl rfl (any_of HT_.out (by kernel_rfl)) (fun _ _ _ h => h) (Or.inl ⟨by rfl, ?_⟩) ?_ ?_
  rotate_left
  · intro w'
    go_simp
    with_reducible rfl
  rotate_left
  · simp only [Act.put, List.setIfInBounds_toArray, List.set_cons_zero, List.set_cons_succ, i64_w, i32_w]
    rfl
  refine pure_ (i := 4) (N := some 50) (v := ?_) (a' := ?_) #[true, true, true, true, true, false, false, false, false, false, false, false, false] rfl rfl (any_of HT_.out (by kernel_rfl)) (fun _ _ _ h => h) (Or.inl ⟨by rfl, ?_⟩) ?_ ?_
  rotate_left
  · intro w'
    go_simp
    with_reducible rfl
  rotate_left
  · simp only [Act.put, List.setIfInBounds_toArray, List.set_cons_zero, List.set_cons_succ, i64_w, i32_w]
    rfl
  refine take_ (i := 5) (N := some 51) (v := ?_) (a' := ?_) #[true, true, true, true, true, true, false, false, false, false, false, false, false] rfl rfl (take_ofW HT_.out HW_.out (by kernel_rfl)) (fun _ _ _ h => h) (Or.inl ⟨by rfl, ?_⟩) hHeld ?_ ?_
  rotate_left
  · rintro w' ⟨s0, s1, s2, s3, s4, s5, s6, s7, s8⟩
    go_simp
    with_reducible rfl
  rotate_left
  · simp only [Act.put, List.setIfInBounds_toArray, List.set_cons_zero, List.set_cons_succ, i64_w, i32_w]
    rfl
  refine take_ (i := 6) (N := some 52) (v := ?_) (a' := ?_) #[true, true, true, true, true, true, true, false, false, false, false, false, false] rfl rfl (take_ofW HT_.out HW_.out (by kernel_rfl)) (fun _ _ _ h => h) (Or.inl ⟨by rfl, ?_⟩) hHeld ?_ ?_
  rotate_left
  · rintro w' ⟨s0, s1, s2, s3, s4, s5, s6, s7, s8⟩
    go_simp
    with_reducible rfl
  rotate_left
  · simp only [Act.put, List.setIfInBounds_toArray, List.set_cons_zero, List.set_cons_succ, i64_w, i32_w]
    rfl
  refine one_ (i := 7) (N := some 53) #[true, true, true, true, true, true, true, true, false, false, false, false, false] rfl rfl (one_of HT_.out (by kernel_rfl)) (by decide) (fun K hK => ?_)
  refine goes_ Try.func39 (by kernel_rfl) rfl #[.pointer (some ⟨gR, 0, none⟩), .agg #[.int .u8 key.1, .int .u8 key.2.1, .int .u8 key.2.2.1, .int .u8 key.2.2.2.1, .int .u8 key.2.2.2.2.1, .int .u8 key.2.2.2.2.2.1, .int .u8 key.2.2.2.2.2.2.1, .int .u8 key.2.2.2.2.2.2.2]] (by rfl) rfl rfl (by simp only [List.map_toArray, List.map_cons, List.map_nil]; rfl) ?_
  with_reducible refine (rrank_w HS6.out key HML.out (Nat.le_trans HBS.out HB6.out.size)).mono ?_
  rintro e w7 ⟨rfl, hb⟩
  refine ⟨_, rfl, ?_⟩
  have HB7 := Aside0.mk (below_step HB6.out hb)
  have HS7 := Aside0.mk (HS6.out.below hb)
  have HWB7 := Aside0.mk ((hb.block _ (blk_lt HWB6.out)).trans HWB6.out)
  have HOX7 := Aside0.mk ((hb.block _ (blk_lt HOX6.out)).trans HOX6.out)
  have HR7 := Aside0.mk ((hb.block _ (blk_lt HR6.out)).trans HR6.out)
  have HK7 := Aside0.mk ((hb.block _ (blk_lt HK6.out)).trans HK6.out)
  rw [← HOKR.out.2.2.2.1, ← HOKR.out.2.2.2.2]
  clear hb HB6
  refine hK.out _ _ ⟨(blk_cell HWB7.out 3).trans rfl, (blk_cell HOX7.out 0).trans rfl, (blk_cell HOX7.out 1).trans rfl, (blk_cell HOX7.out 2).trans rfl, (blk_cell HOX7.out 3).trans rfl, (blk_cell HOX7.out 4).trans rfl, (blk_cell HOX7.out 5).trans rfl, (blk_cell HOX7.out 6).trans rfl, (blk_cell HOX7.out 7).trans rfl⟩ (fun hHeld => ?_)
  clear hK K
  refine norm_ (a' := ?_) ?_ ?_
  rotate_left
  · show Act.put _ (some 53) _ = _
    simp only [Act.put, List.setIfInBounds_toArray, List.set_cons_zero, List.set_cons_succ, i64_w, i32_w]
    rfl
  refine pure_ (i := 8) (N := some 45) (v := ?_) (a' := ?_) #[true, true, true, true, true, true, true, true, true, false, false, false, false] rfl rfl (any_of HT_.out (by kernel_rfl)) (fun _ _ _ h => h) (Or.inl ⟨by rfl, ?_⟩) ?_ ?_
  rotate_left
  · intro w'
    go_simp
    with_reducible rfl
  rotate_left
  · simp only [Act.put, List.setIfInBounds_toArray, List.set_cons_zero, List.set_cons_succ, i64_w, i32_w]
    rfl
  refine pure_ (i := 9) (N := some 54) (v := ?_) (a' := ?_) #[true, true, true, true, true, true, true, true, true, true, false, false, false] rfl rfl (any_of HT_.out (by kernel_rfl)) (fun _ _ _ h => h) (Or.inl ⟨by rfl, ?_⟩) ?_ ?_
  rotate_left
  · intro w'
    go_simp
    with_reducible rfl
  rotate_left
  · simp only [Act.put, List.setIfInBounds_toArray, List.set_cons_zero, List.set_cons_succ, i64_w, i32_w]
    rfl
  refine pure_ (i := 10) (N := some 55) (v := ?_) (a' := ?_) #[true, true, true, true, true, true, true, true, true, true, true, false, false] rfl rfl (any_of HT_.out (by kernel_rfl)) (fun _ _ _ h => h) (Or.inl ⟨by rfl, ?_⟩) ?_ ?_
  rotate_left
  · intro w'
    go_simp
    with_reducible rfl
  rotate_left
  · simp only [Act.put, List.setIfInBounds_toArray, List.set_cons_zero, List.set_cons_succ, i64_w, i32_w]
    rfl
  refine pure_ (i := 11) (N := some 15) (v := ?_) (a' := ?_) #[true, true, true, true, true, true, true, true, true, true, true, true, false] rfl rfl (any_of HT_.out (by kernel_rfl)) (fun _ _ _ h => h) (Or.inl ⟨by rfl, ?_⟩) ?_ ?_
  rotate_left
  · intro w'
    go_simp
    with_reducible rfl
  rotate_left
  · simp only [Act.put, List.setIfInBounds_toArray, List.set_cons_zero, List.set_cons_succ, i64_w, i32_w]
    rfl
  refine pure_ (i := 12) (N := some 16) (v := ?_) (a' := ?_) #[true, true, true, true, true, true, true, true, true, true, true, true, true] rfl rfl (any_of HT_.out (by kernel_rfl)) (fun _ _ _ h => h) (Or.inl ⟨by rfl, ?_⟩) ?_ ?_
  rotate_left
  · intro w'
    go_simp
    with_reducible rfl
  rotate_left
  · simp only [Act.put, List.setIfInBounds_toArray, List.set_cons_zero, List.set_cons_succ, i64_w, i32_w]
    rfl
  refine done_ (done_of HT_.out (by kernel_rfl)) ?_
  try clear hHeld
  have heq := eq_id
  obtain ⟨RA, rcap, hrc⟩ := HS7.out.cell
  obtain ⟨n, hn⟩ : ∃ n, n = M.length := ⟨_, rfl⟩
  have HN := Aside0.mk hn
  rw [List.length_map, ← hn] at hrc
  have HRC := Aside0.mk hrc
  have HRB : Aside0 (gR < w7.heap.size) := ⟨by obtain ⟨_, _, _, _, _, _, _, _, _, _, h4, _, _⟩ := HS7.out.ex; exact blk_lt h4.blk⟩
  clear hn hrc
  go_wp2_with fail
  refine start_ (n := 41) (S := fun w' => w'.cell? ⟨gw, 3, none⟩ = some (.pointer (some ⟨gR, 0, none⟩)) ∧ w'.cell? ⟨gR, 1, none⟩ = some (.slice RA n rcap) ∧ w'.cell? ⟨w3.heap.size, 0, none⟩ = some (.int .u8 ko.1) ∧ w'.cell? ⟨w3.heap.size, 1, none⟩ = some (.int .u8 ko.2.1) ∧ w'.cell? ⟨w3.heap.size, 2, none⟩ = some (.int .u8 ko.2.2.1) ∧ w'.cell? ⟨w3.heap.size, 3, none⟩ = some (.int .u8 ko.2.2.2.1) ∧ w'.cell? ⟨w3.heap.size, 4, none⟩ = some (.int .u8 ko.2.2.2.2.1) ∧ w'.cell? ⟨w3.heap.size, 5, none⟩ = some (.int .u8 ko.2.2.2.2.2.1) ∧ w'.cell? ⟨w3.heap.size, 6, none⟩ = some (.int .u8 ko.2.2.2.2.2.2.1) ∧ w'.cell? ⟨w3.heap.size, 7, none⟩ = some (.int .u8 ko.2.2.2.2.2.2.2) ∧ w'.cell? ⟨w1.heap.size, 0, none⟩ = some (.int .u8 ko.1) ∧ w'.cell? ⟨w1.heap.size, 1, none⟩ = some (.int .u8 ko.2.1) ∧ w'.cell? ⟨w1.heap.size, 2, none⟩ = some (.int .u8 ko.2.2.1) ∧ w'.cell? ⟨w1.heap.size, 3, none⟩ = some (.int .u8 ko.2.2.2.1) ∧ w'.cell? ⟨w1.heap.size, 4, none⟩ = some (.int .u8 ko.2.2.2.2.1) ∧ w'.cell? ⟨w1.heap.size, 5, none⟩ = some (.int .u8 ko.2.2.2.2.2.1) ∧ w'.cell? ⟨w1.heap.size, 6, none⟩ = some (.int .u8 ko.2.2.2.2.2.2.1) ∧ w'.cell? ⟨w1.heap.size, 7, none⟩ = some (.int .u8 ko.2.2.2.2.2.2.2) ∧ w'.cell? ⟨w1.heap.size, 8, none⟩ = some (.int .i64 ro)) (ds := []) #[false, false, false, false, false, false, false, false, false, false, false, false, false, false, false, false, false, false, false, false, false, false, false, false, false, false, false, false, false, false, false, false, false, false, false, false, false, false, false, false, false] (by kernel_rfl) rfl rfl ⟨(blk_cell HWB7.out 3).trans rfl, HRC.out, (blk_cell HK7.out 0).trans rfl, (blk_cell HK7.out 1).trans rfl, (blk_cell HK7.out 2).trans rfl, (blk_cell HK7.out 3).trans rfl, (blk_cell HK7.out 4).trans rfl, (blk_cell HK7.out 5).trans rfl, (blk_cell HK7.out 6).trans rfl, (blk_cell HK7.out 7).trans rfl, (blk_cell HR7.out 0).trans rfl, (blk_cell HR7.out 1).trans rfl, (blk_cell HR7.out 2).trans rfl, (blk_cell HR7.out 3).trans rfl, (blk_cell HR7.out 4).trans rfl, (blk_cell HR7.out 5).trans rfl, (blk_cell HR7.out 6).trans rfl, (blk_cell HR7.out 7).trans rfl, (blk_cell HR7.out 8).trans rfl⟩ (fun hHeld => ?_)
  refine with_tabW looks.tab6 looks.bits6 (fun HT_ HW_ => ?_)
  have HRC8 : Aside0 (w7.drew.cell? ⟨gR, 1, none⟩ = some (.slice RA n rcap)) := ⟨HRC.out⟩
  have hb : Below w7.heap.size w7 w7.drew := below_drew (Below.refl _ _)
  have HB8 := Aside0.mk (below_step HB7.out hb)
  have HS8 := Aside0.mk (HS7.out.below hb)
  have HWB8 := Aside0.mk ((hb.block _ (blk_lt HWB7.out)).trans HWB7.out)
  have HOX8 := Aside0.mk ((hb.block _ (blk_lt HOX7.out)).trans HOX7.out)
  have HR8 := Aside0.mk ((hb.block _ (blk_lt HR7.out)).trans HR7.out)
  have HK8 := Aside0.mk ((hb.block _ (blk_lt HK7.out)).trans HK7.out)
  clear hb
  generalize w7.drew = w8 at HB8 HS8 HWB8 HOX8 HR8 HK8 HRC8 hHeld ⊢
  refine pure_ (i := 0) (N := some 56) (v := ?_) (a' := ?_) #[true, false, false, false, false, false, false, false, false, false, false, false, false, false, false, false, false, false, false, false, false, false, false, false, false, false, false, false, false, false, false, false, false, false, false, false, false, false, false, false, false] rfl rfl (any_of HT_.out (by kernel_rfl)) (fun _ _ _ h => h) (Or.inl ⟨by rfl, ?_⟩) ?_ ?_
  rotate_left
  · intro w'
    go_simp
    with_reducible rfl
  rotate_left
  · simp only [Act.put, List.setIfInBounds_toArray, List.set_cons_zero, List.set_cons_succ, i64_w, i32_w]
    rfl
  refine pure_ (i := 1) (N := some 57) (v := ?_) (a' := ?_) #[true, true, false, false, false, false, false, false, false, false, false, false, false, false, false, false, false, false, false, false, false, false, false, false, false, false, false, false, false, false, false, false, false, false, false, false, false, false, false, false, false] rfl rfl (any_of HT_.out (by kernel_rfl)) (fun _ _ _ h => h) (Or.inl ⟨by rfl, ?_⟩) ?_ ?_
  rotate_left
  · intro w'
    go_simp
    with_reducible rfl
  rotate_left
  · simp only [Act.put, List.setIfInBounds_toArray, List.set_cons_zero, List.set_cons_succ, i64_w, i32_w]
    rfl
  refine pure_ (i := 2) (N := some 58) (v := ?_) (a' := ?_) #[true, true, true, false, false, false, false, false, false, false, false, false, false, false, false, false, false, false, false, false, false, false, false, false, false, false, false, false, false, false, false, false, false, false, false, false, false, false, false, false, false] rfl rfl (any_of HT_.out (by kernel_rfl)) (fun _ _ _ h => h) (Or.inl ⟨by rfl, ?_⟩) ?_ ?_
  rotate_left
  · intro w'
    go_simp
    with_reducible rfl
  rotate_left
  · simp only [Act.put, List.setIfInBounds_toArray, List.set_cons_zero, List.set_cons_succ, i64_w, i32_w]
    rfl
  refine pure_ (i := 3) (N := some 59) (v := ?_) (a' := ?_) #[true, true, true, true, false, false, false, false, false, false, false, false, false, false, false, false, false, false, false, false, false, false, false, false, false, false, false, false, false, false, false, false, false, false, false, false, false, false, false, false, false] rfl rfl (any_of HT_.out (by kernel_rfl)) (fun _ _ _ h => h) (Or.inl ⟨by rfl, ?_⟩) ?_ ?_
  rotate_left
  · intro w'
    go_simp
    with_reducible rfl
  rotate_left
  · simp only [Act.put, List.setIfInBounds_toArray, List.set_cons_zero, List.set_cons_succ, i64_w, i32_w]
    rfl
  refine pure_ (i := 5) (N := some 61) (v := ?_) (a' := ?_) #[true, true, true, true, false, true, false, false, false, false, false, false, false, false, false, false, false, false, false, false, false, false, false, false, false, false, false, false, false, false, false, false, false, false, false, false, false, false, false, false, false] rfl rfl (any_of HT_.out (by kernel_rfl)) (fun _ _ _ h => h) (Or.inl ⟨by rfl, ?_⟩) ?_ ?_
  rotate_left
  · intro w'
    go_simp
    with_reducible rfl
  rotate_left
  · simp only [Act.put, List.setIfInBounds_toArray, List.set_cons_zero, List.set_cons_succ, i64_w, i32_w]
    rfl
  refine take_ (i := 4) (N := some 60) (v := ?_) (a' := ?_) #[true, true, true, true, true, true, false, false, false, false, false, false, false, false, false, false, false, false, false, false, false, false, false, false, false, false, false, false, false, false, false, false, false, false, false, false, false, false, false, false, false] rfl rfl (take_ofW HT_.out HW_.out (by kernel_rfl)) (fun _ _ _ h => h) (Or.inl ⟨by rfl, ?_⟩) hHeld ?_ ?_
  rotate_left
  · rintro w' ⟨s0, s1, s2, s3, s4, s5, s6, s7, s8, s9, s10, s11, s12, s13, s14, s15, s16, s17, s18⟩
    go_simp
    with_reducible rfl
  rotate_left
  · simp only [Act.put, List.setIfInBounds_toArray, List.set_cons_zero, List.set_cons_succ, i64_w, i32_w]
    rfl
  refine take_ (i := 6) (N := some 62) (v := ?_) (a' := ?_) #[true, true, true, true, true, true, true, false, false, false, false, false, false, false, false, false, false, false, false, false, false, false, false, false, false, false, false, false, false, false, false, false, false, false, false, false, false, false, false, false, false] rfl rfl (take_ofW HT_.out HW_.out (by kernel_rfl)) (fun _ _ _ h => h) (Or.inl ⟨by rfl, ?_⟩) hHeld ?_ ?_
  rotate_left
  · rintro w' ⟨s0, s1, s2, s3, s4, s5, s6, s7, s8, s9, s10, s11, s12, s13, s14, s15, s16, s17, s18⟩
    go_simp
    with_reducible rfl
  rotate_left
  · simp only [Act.put, List.setIfInBounds_toArray, List.set_cons_zero, List.set_cons_succ, i64_w, i32_w]
    rfl
  refine pure_ (i := 7) (N := some 63) (v := ?_) (a' := ?_) #[true, true, true, true, true, true, true, true, false, false, false, false, false, false, false, false, false, false, false, false, false, false, false, false, false, false, false, false, false, false, false, false, false, false, false, false, false, false, false, false, false] rfl rfl (any_of HT_.out (by kernel_rfl)) (fun _ _ _ h => h) (Or.inl ⟨by rfl, ?_⟩) ?_ ?_
  rotate_left
  · intro w'
    go_simp
    with_reducible rfl
  rotate_left
  · simp only [Act.put, List.setIfInBounds_toArray, List.set_cons_zero, List.set_cons_succ, i64_w, i32_w]
    rfl
  refine pure_ (i := 8) (N := some 64) (v := ?_) (a' := ?_) #[true, true, true, true, true, true, true, true, true, false, false, false, false, false, false, false, false, false, false, false, false, false, false, false, false, false, false, false, false, false, false, false, false, false, false, false, false, false, false, false, false] rfl rfl (any_of HT_.out (by kernel_rfl)) (fun _ _ _ h => h) (Or.inl ⟨by rfl, ?_⟩) ?_ ?_
  rotate_left
  · intro w'
    go_simp
    with_reducible rfl
  rotate_left
  · simp only [Act.put, List.setIfInBounds_toArray, List.set_cons_zero, List.set_cons_succ, i64_w, i32_w]
    rfl
  refine pure_ (i := 9) (N := some 65) (v := ?_) (a' := ?_) #[true, true, true, true, true, true, true, true, true, true, false, false, false, false, false, false, false, false, false, false, false, false, false, false, false, false, false, false, false, false, false, false, false, false, false, false, false, false, false, false, false] rfl rfl (any_of HT_.out (by kernel_rfl)) (fun _ _ _ h => h) (Or.inl ⟨by rfl, ?_⟩) ?_ ?_
  rotate_left
  · intro w'
    go_simp
    with_reducible rfl
  rotate_left
  · simp only [Act.put, List.setIfInBounds_toArray, List.set_cons_zero, List.set_cons_succ, i64_w, i32_w]
    rfl
  refine pure_ (i := 10) (N := some 66) (v := ?_) (a' := ?_) #[true, true, true, true, true, true, true, true, true, true, true, false, false, false, false, false, false, false, false, false, false, false, false, false, false, false, false, false, false, false, false, false, false, false, false, false, false, false, false, false, false] rfl rfl (any_of HT_.out (by kernel_rfl)) (fun _ _ _ h => h) (Or.inl ⟨by rfl, ?_⟩) ?_ ?_
  rotate_left
  · intro w'
    go_simp
    with_reducible rfl
  rotate_left
  · simp only [Act.put, List.setIfInBounds_toArray, List.set_cons_zero, List.set_cons_succ, i64_w, i32_w]
    rfl
  refine pure_ (i := 11) (N := some 67) (v := ?_) (a' := ?_) #[true, true, true, true, true, true, true, true, true, true, true, true, false, false, false, false, false, false, false, false, false, false, false, false, false, false, false, false, false, false, false, false, false, false, false, false, false, false, false, false, false] rfl rfl (any_of HT_.out (by kernel_rfl)) (fun _ _ _ h => h) (Or.inl ⟨by rfl, ?_⟩) ?_ ?_
  rotate_left
  · intro w'
    go_simp
    with_reducible rfl
  rotate_left
  · simp only [Act.put, List.setIfInBounds_toArray, List.set_cons_zero, List.set_cons_succ, i64_w, i32_w]
    rfl
  refine take_ (i := 12) (N := some 68) (v := ?_) (a' := ?_) #[true, true, true, true, true, true, true, true, true, true, true, true, true, false, false, false, false, false, false, false, false, false, false, false, false, false, false, false, false, false, false, false, false, false, false, false, false, false, false, false, false] rfl rfl (take_ofW HT_.out HW_.out (by kernel_rfl)) (fun _ _ _ h => h) (Or.inl ⟨by rfl, ?_⟩) hHeld ?_ ?_
  rotate_left
  · rintro w' ⟨s0, s1, s2, s3, s4, s5, s6, s7, s8, s9, s10, s11, s12, s13, s14, s15, s16, s17, s18⟩
    go_simp
    with_reducible rfl
  rotate_left
  · simp only [Act.put, List.setIfInBounds_toArray, List.set_cons_zero, List.set_cons_succ, i64_w, i32_w]
    rfl
  refine pure_ (i := 13) (N := some 69) (v := ?_) (a' := ?_) #[true, true, true, true, true, true, true, true, true, true, true, true, true, true, false, false, false, false, false, false, false, false, false, false, false, false, false, false, false, false, false, false, false, false, false, false, false, false, false, false, false] rfl rfl (any_of HT_.out (by kernel_rfl)) (fun _ _ _ h => h) (Or.inl ⟨by rfl, ?_⟩) ?_ ?_
  rotate_left
  · intro w'
    go_simp
    with_reducible rfl
  rotate_left
  · simp only [Act.put, List.setIfInBounds_toArray, List.set_cons_zero, List.set_cons_succ, i64_w, i32_w]
    rfl
  refine pure_ (i := 14) (N := some 70) (v := ?_) (a' := ?_) #[true, true, true, true, true, true, true, true, true, true, true, true, true, true, true, false, false, false, false, false, false, false, false, false, false, false, false, false, false, false, false, false, false, false, false, false, false, false, false, false, false] rfl rfl (any_of HT_.out (by kernel_rfl)) (fun _ _ _ h => h) (Or.inl ⟨by rfl, ?_⟩) ?_ ?_
  rotate_left
  · intro w'
    go_simp
    with_reducible rfl
  rotate_left
  · simp only [Act.put, List.setIfInBounds_toArray, List.set_cons_zero, List.set_cons_succ, i64_w, i32_w]
    rfl
  refine pure_ (i := 15) (N := some 71) (v := ?_) (a' := ?_) #[true, true, true, true, true, true, true, true, true, true, true, true, true, true, true, true, false, false, false, false, false, false, false, false, false, false, false, false, false, false, false, false, false, false, false, false, false, false, false, false, false] rfl rfl (any_of HT_.out (by kernel_rfl)) (fun _ _ _ h => h) (Or.inl ⟨by rfl, ?_⟩) ?_ ?_
  rotate_left
  · intro w'
    go_simp
    with_reducible rfl
  rotate_left
  · simp only [Act.put, List.setIfInBounds_toArray, List.set_cons_zero, List.set_cons_succ, i64_w, i32_w]
    rfl
  refine pure_ (i := 16) (N := some 72) (v := ?_) (a' := ?_) #[true, true, true, true, true, true, true, true, true, true, true, true, true, true, true, true, true, false, false, false, false, false, false, false, false, false, false, false, false, false, false, false, false, false, false, false, false, false, false, false, false] rfl rfl (any_of HT_.out (by kernel_rfl)) (fun _ _ _ h => h) (Or.inl ⟨by rfl, ?_⟩) ?_ ?_
  rotate_left
  · intro w'
    go_simp
    with_reducible rfl
  rotate_left
  · simp only [Act.put, List.setIfInBounds_toArray, List.set_cons_zero, List.set_cons_succ, i64_w, i32_w]
    rfl
  refine pure_ (i := 17) (N := some 73) (v := ?_) (a' := ?_) #[true, true, true, true, true, true, true, true, true, true, true, true, true, true, true, true, true, true, false, false, false, false, false, false, false, false, false, false, false, false, false, false, false, false, false, false, false, false, false, false, false] rfl rfl (any_of HT_.out (by kernel_rfl)) (fun _ _ _ h => h) (Or.inl ⟨by rfl, ?_⟩) ?_ ?_
  rotate_left
  · intro w'
    go_simp
    with_reducible rfl
  rotate_left
  · simp only [Act.put, List.setIfInBounds_toArray, List.set_cons_zero, List.set_cons_succ, i64_w, i32_w]
    rfl
  refine pure_ (i := 18) (N := some 74) (v := ?_) (a' := ?_) #[true, true, true, true, true, true, true, true, true, true, true, true, true, true, true, true, true, true, true, false, false, false, false, false, false, false, false, false, false, false, false, false, false, false, false, false, false, false, false, false, false] rfl rfl (any_of HT_.out (by kernel_rfl)) (fun _ _ _ h => h) (Or.inl ⟨by rfl, ?_⟩) ?_ ?_
  rotate_left
  · intro w'
    go_simp
    with_reducible rfl
  rotate_left
  · simp only [Act.put, List.setIfInBounds_toArray, List.set_cons_zero, List.set_cons_succ, i64_w, i32_w]
    rfl
  refine pure_ (i := 19) (N := some 75) (v := ?_) (a' := ?_) #[true, true, true, true, true, true, true, true, true, true, true, true, true, true, true, true, true, true, true, true, false, false, false, false, false, false, false, false, false, false, false, false, false, false, false, false, false, false, false, false, false] rfl rfl (any_of HT_.out (by kernel_rfl)) (fun _ _ _ h => h) (Or.inl ⟨by rfl, ?_⟩) ?_ ?_
  rotate_left
  · intro w'
    go_simp
    with_reducible rfl
  rotate_left
  · simp only [Act.put, List.setIfInBounds_toArray, List.set_cons_zero, List.set_cons_succ, i64_w, i32_w]
    rfl
  refine pure_ (i := 20) (N := some 76) (v := ?_) (a' := ?_) #[true, true, true, true, true, true, true, true, true, true, true, true, true, true, true, true, true, true, true, true, true, false, false, false, false, false, false, false, false, false, false, false, false, false, false, false, false, false, false, false, false] rfl rfl (any_of HT_.out (by kernel_rfl)) (fun _ _ _ h => h) (Or.inl ⟨by rfl, ?_⟩) ?_ ?_
  rotate_left
  · intro w'
    go_simp
    with_reducible rfl
  rotate_left
  · simp only [Act.put, List.setIfInBounds_toArray, List.set_cons_zero, List.set_cons_succ, i64_w, i32_w]
    rfl
  refine pure_ (i := 21) (N := some 77) (v := ?_) (a' := ?_) #[true, true, true, true, true, true, true, true, true, true, true, true, true, true, true, true, true, true, true, true, true, true, false, false, false, false, false, false, false, false, false, false, false, false, false, false, false, false, false, false, false] rfl rfl (any_of HT_.out (by kernel_rfl)) (fun _ _ _ h => h) (Or.inl ⟨by rfl, ?_⟩) ?_ ?_
  rotate_left
  · intro w'
    go_simp
    with_reducible rfl
  rotate_left
  · simp only [Act.put, List.setIfInBounds_toArray, List.set_cons_zero, List.set_cons_succ, i64_w, i32_w]
    rfl
  refine pure_ (i := 22) (N := some 78) (v := ?_) (a' := ?_) #[true, true, true, true, true, true, true, true, true, true, true, true, true, true, true, true, true, true, true, true, true, true, true, false, false, false, false, false, false, false, false, false, false, false, false, false, false, false, false, false, false] rfl rfl (any_of HT_.out (by kernel_rfl)) (fun _ _ _ h => h) (Or.inl ⟨by rfl, ?_⟩) ?_ ?_
  rotate_left
  · intro w'
    go_simp
    with_reducible rfl
  rotate_left
  · simp only [Act.put, List.setIfInBounds_toArray, List.set_cons_zero, List.set_cons_succ, i64_w, i32_w]
    rfl
  refine pure_ (i := 23) (N := some 79) (v := ?_) (a' := ?_) #[true, true, true, true, true, true, true, true, true, true, true, true, true, true, true, true, true, true, true, true, true, true, true, true, false, false, false, false, false, false, false, false, false, false, false, false, false, false, false, false, false] rfl rfl (any_of HT_.out (by kernel_rfl)) (fun _ _ _ h => h) (Or.inl ⟨by rfl, ?_⟩) ?_ ?_
  rotate_left
  · intro w'
    go_simp
    with_reducible rfl
  rotate_left
  · simp only [Act.put, List.setIfInBounds_toArray, List.set_cons_zero, List.set_cons_succ, i64_w, i32_w]
    rfl
  refine pure_ (i := 24) (N := some 80) (v := ?_) (a' := ?_) #[true, true, true, true, true, true, true, true, true, true, true, true, true, true, true, true, true, true, true, true, true, true, true, true, true, false, false, false, false, false, false, false, false, false, false, false, false, false, false, false, false] rfl rfl (any_of HT_.out (by kernel_rfl)) (fun _ _ _ h => h) (Or.inl ⟨by rfl, ?_⟩) ?_ ?_
  rotate_left
  · intro w'
    go_simp
    with_reducible rfl
  rotate_left
  · simp only [Act.put, List.setIfInBounds_toArray, List.set_cons_zero, List.set_cons_succ, i64_w, i32_w]
    rfl
  refine pure_ (i := 25) (N := some 81) (v := ?_) (a' := ?_) #[true, true, true, true, true, true, true, true, true, true, true, true, true, true, true, true, true, true, true, true, true, true, true, true, true, true, false, false, false, false, false, false, false, false, false, false, false, false, false, false, false] rfl rfl (any_of HT_.out (by kernel_rfl)) (fun _ _ _ h => h) (Or.inl ⟨by rfl, ?_⟩) ?_ ?_
  rotate_left
  · intro w'
    go_simp
    with_reducible rfl
  rotate_left
  · simp only [Act.put, List.setIfInBounds_toArray, List.set_cons_zero, List.set_cons_succ, i64_w, i32_w]
    rfl
  refine pure_ (i := 26) (N := some 82) (v := ?_) (a' := ?_) #[true, true, true, true, true, true, true, true, true, true, true, true, true, true, true, true, true, true, true, true, true, true, true, true, true, true, true, false, false, false, false, false, false, false, false, false, false, false, false, false, false] rfl rfl (any_of HT_.out (by kernel_rfl)) (fun _ _ _ h => h) (Or.inl ⟨by rfl, ?_⟩) ?_ ?_
  rotate_left
  · intro w'
    go_simp
    with_reducible rfl
  rotate_left
  · simp only [Act.put, List.setIfInBounds_toArray, List.set_cons_zero, List.set_cons_succ, i64_w, i32_w]
    rfl
  refine pure_ (i := 28) (N := some 84) (v := ?_) (a' := ?_) #[true, true, true, true, true, true, true, true, true, true, true, true, true, true, true, true, true, true, true, true, true, true, true, true, true, true, true, false, true, false, false, false, false, false, false, false, false, false, false, false, false] rfl rfl (any_of HT_.out (by kernel_rfl)) (fun _ _ _ h => h) (Or.inl ⟨by rfl, ?_⟩) ?_ ?_
  rotate_left
  · intro w'
    go_simp
    with_reducible rfl
  rotate_left
  · simp only [Act.put, List.setIfInBounds_toArray, List.set_cons_zero, List.set_cons_succ, i64_w, i32_w]
    rfl
  refine pure_ (i := 29) (N := some 85) (v := ?_) (a' := ?_) #[true, true, true, true, true, true, true, true, true, true, true, true, true, true, true, true, true, true, true, true, true, true, true, true, true, true, true, false, true, true, false, false, false, false, false, false, false, false, false, false, false] rfl rfl (any_of HT_.out (by kernel_rfl)) (fun _ _ _ h => h) (Or.inl ⟨by rfl, ?_⟩) ?_ ?_
  rotate_left
  · intro w'
    go_simp
    with_reducible rfl
  rotate_left
  · simp only [Act.put, List.setIfInBounds_toArray, List.set_cons_zero, List.set_cons_succ, i64_w, i32_w]
    rfl
  refine pure_ (i := 30) (N := some 86) (v := ?_) (a' := ?_) #[true, true, true, true, true, true, true, true, true, true, true, true, true, true, true, true, true, true, true, true, true, true, true, true, true, true, true, false, true, true, true, false, false, false, false, false, false, false, false, false, false] rfl rfl (any_of HT_.out (by kernel_rfl)) (fun _ _ _ h => h) (Or.inl ⟨by rfl, ?_⟩) ?_ ?_
  rotate_left
  · intro w'
    go_simp
    with_reducible rfl
  rotate_left
  · simp only [Act.put, List.setIfInBounds_toArray, List.set_cons_zero, List.set_cons_succ, i64_w, i32_w]
    rfl
  refine pure_ (i := 31) (N := some 87) (v := ?_) (a' := ?_) #[true, true, true, true, true, true, true, true, true, true, true, true, true, true, true, true, true, true, true, true, true, true, true, true, true, true, true, false, true, true, true, true, false, false, false, false, false, false, false, false, false] rfl rfl (any_of HT_.out (by kernel_rfl)) (fun _ _ _ h => h) (Or.inl ⟨by rfl, ?_⟩) ?_ ?_
  rotate_left
  · intro w'
    go_simp
    with_reducible rfl
  rotate_left
  · simp only [Act.put, List.setIfInBounds_toArray, List.set_cons_zero, List.set_cons_succ, i64_w, i32_w]
    rfl
  refine pure_ (i := 32) (N := some 88) (v := ?_) (a' := ?_) #[true, true, true, true, true, true, true, true, true, true, true, true, true, true, true, true, true, true, true, true, true, true, true, true, true, true, true, false, true, true, true, true, true, false, false, false, false, false, false, false, false] rfl rfl (any_of HT_.out (by kernel_rfl)) (fun _ _ _ h => h) (Or.inl ⟨by rfl, ?_⟩) ?_ ?_
  rotate_left
  · intro w'
    go_simp
    with_reducible rfl
  rotate_left
  · simp only [Act.put, List.setIfInBounds_toArray, List.set_cons_zero, List.set_cons_succ, i64_w, i32_w]
    rfl
  refine take_ (i := 33) (N := some 89) (v := ?_) (a' := ?_) #[true, true, true, true, true, true, true, true, true, true, true, true, true, true, true, true, true, true, true, true, true, true, true, true, true, true, true, false, true, true, true, true, true, true, false, false, false, false, false, false, false] rfl rfl (take_ofW HT_.out HW_.out (by kernel_rfl)) (fun _ _ _ h => h) (Or.inl ⟨by rfl, ?_⟩) hHeld ?_ ?_
  rotate_left
  · rintro w' ⟨s0, s1, s2, s3, s4, s5, s6, s7, s8, s9, s10, s11, s12, s13, s14, s15, s16, s17, s18⟩
    go_simp
    with_reducible rfl
  rotate_left
  · simp only [Act.put, List.setIfInBounds_toArray, List.set_cons_zero, List.set_cons_succ, i64_w, i32_w]
    rfl
  refine pure_ (i := 34) (N := some 90) (v := ?_) (a' := ?_) #[true, true, true, true, true, true, true, true, true, true, true, true, true, true, true, true, true, true, true, true, true, true, true, true, true, true, true, false, true, true, true, true, true, true, true, false, false, false, false, false, false] rfl rfl (any_of HT_.out (by kernel_rfl)) (fun _ _ _ h => h) (Or.inl ⟨by rfl, ?_⟩) ?_ ?_
  rotate_left
  · intro w'
    go_simp
    with_reducible rfl
  rotate_left
  · simp only [Act.put, List.setIfInBounds_toArray, List.set_cons_zero, List.set_cons_succ, i64_w, i32_w]
    rfl
  refine pure_ (i := 35) (N := some 91) (v := ?_) (a' := ?_) #[true, true, true, true, true, true, true, true, true, true, true, true, true, true, true, true, true, true, true, true, true, true, true, true, true, true, true, false, true, true, true, true, true, true, true, true, false, false, false, false, false] rfl rfl (any_of HT_.out (by kernel_rfl)) (fun _ _ _ h => h) (Or.inl ⟨by rfl, ?_⟩) ?_ ?_
  rotate_left
  · intro w'
    go_simp
    with_reducible rfl
  rotate_left
  · simp only [Act.put, List.setIfInBounds_toArray, List.set_cons_zero, List.set_cons_succ, i64_w, i32_w]
    rfl
  refine take_ (i := 36) (N := some 92) (v := ?_) (a' := ?_) #[true, true, true, true, true, true, true, true, true, true, true, true, true, true, true, true, true, true, true, true, true, true, true, true, true, true, true, false, true, true, true, true, true, true, true, true, true, false, false, false, false] rfl rfl (take_ofW HT_.out HW_.out (by kernel_rfl)) (fun _ _ _ h => h) (Or.inl ⟨by rfl, ?_⟩) hHeld ?_ ?_
  rotate_left
  · rintro w' ⟨s0, s1, s2, s3, s4, s5, s6, s7, s8, s9, s10, s11, s12, s13, s14, s15, s16, s17, s18⟩
    go_simp
    with_reducible rfl
  rotate_left
  · simp only [Act.put, List.setIfInBounds_toArray, List.set_cons_zero, List.set_cons_succ, i64_w, i32_w]
    rfl
  refine pure_ (i := 37) (N := some 93) (v := ?_) (a' := ?_) #[true, true, true, true, true, true, true, true, true, true, true, true, true, true, true, true, true, true, true, true, true, true, true, true, true, true, true, false, true, true, true, true, true, true, true, true, true, true, false, false, false] rfl rfl (any_of HT_.out (by kernel_rfl)) (fun _ _ _ h => h) (Or.inl ⟨by rfl, ?_⟩) ?_ ?_
  rotate_left
  · intro w'
    go_simp
    with_reducible rfl
  rotate_left
  · simp only [Act.put, List.setIfInBounds_toArray, List.set_cons_zero, List.set_cons_succ, i64_w, i32_w]
    rfl
  refine one_ (i := 27) (N := some 83) #[true, true, true, true, true, true, true, true, true, true, true, true, true, true, true, true, true, true, true, true, true, true, true, true, true, true, true, true, true, true, true, true, true, true, true, true, true, true, false, false, false] rfl rfl (one_of HT_.out (by kernel_rfl)) (by decide) (fun K hK => ?_)
  refine goes_ Try.func40 (by kernel_rfl) rfl #[.pointer (some ⟨gH, 0, none⟩)] (by rfl) rfl rfl (by simp only [List.map_toArray, List.map_cons, List.map_nil]; rfl) ?_
  with_reducible refine (hlen_slot HS8.out).mono ?_
  rintro e w9 ⟨rfl, rfl⟩
  refine ⟨_, rfl, ?_⟩
  rw [← HN.out]
  refine hK.out _ _ ⟨(blk_cell HWB8.out 3).trans rfl, HRC8.out, (blk_cell HK8.out 0).trans rfl, (blk_cell HK8.out 1).trans rfl, (blk_cell HK8.out 2).trans rfl, (blk_cell HK8.out 3).trans rfl, (blk_cell HK8.out 4).trans rfl, (blk_cell HK8.out 5).trans rfl, (blk_cell HK8.out 6).trans rfl, (blk_cell HK8.out 7).trans rfl, (blk_cell HR8.out 0).trans rfl, (blk_cell HR8.out 1).trans rfl, (blk_cell HR8.out 2).trans rfl, (blk_cell HR8.out 3).trans rfl, (blk_cell HR8.out 4).trans rfl, (blk_cell HR8.out 5).trans rfl, (blk_cell HR8.out 6).trans rfl, (blk_cell HR8.out 7).trans rfl, (blk_cell HR8.out 8).trans rfl⟩ (fun hHeld => ?_)
  clear hK K
  refine norm_ (a' := ?_) ?_ ?_
  rotate_left
  · show Act.put _ (some 83) _ = _
    simp only [Act.put, List.setIfInBounds_toArray, List.set_cons_zero, List.set_cons_succ, i64_w, i32_w]
    rfl
  refine pure_ (i := 38) (N := some 94) (v := ?_) (a' := ?_) #[true, true, true, true, true, true, true, true, true, true, true, true, true, true, true, true, true, true, true, true, true, true, true, true, true, true, true, true, true, true, true, true, true, true, true, true, true, true, true, false, false] rfl rfl (any_of HT_.out (by kernel_rfl)) (fun _ _ _ h => h) (Or.inl ⟨by rfl, ?_⟩) ?_ ?_
  rotate_left
  · intro w'
    go_simp
    with_reducible rfl
  rotate_left
  · simp only [Act.put, List.setIfInBounds_toArray, List.set_cons_zero, List.set_cons_succ, i64_w, i32_w]
    rfl
  refine pure_ (i := 39) (N := some 95) (v := ?_) (a' := ?_) #[true, true, true, true, true, true, true, true, true, true, true, true, true, true, true, true, true, true, true, true, true, true, true, true, true, true, true, true, true, true, true, true, true, true, true, true, true, true, true, true, false] rfl rfl (any_of HT_.out (by kernel_rfl)) (fun _ _ _ h => h) (Or.inl ⟨by rfl, ?_⟩) ?_ ?_
  rotate_left
  · intro w'
    go_simp
    with_reducible rfl
  rotate_left
  · simp only [Act.put, List.setIfInBounds_toArray, List.set_cons_zero, List.set_cons_succ, i64_w, i32_w]
    rfl
  refine pure_ (i := 40) (N := some 6) (v := ?_) (a' := ?_) #[true, true, true, true, true, true, true, true, true, true, true, true, true, true, true, true, true, true, true, true, true, true, true, true, true, true, true, true, true, true, true, true, true, true, true, true, true, true, true, true, true] rfl rfl (any_of HT_.out (by kernel_rfl)) (fun _ _ _ h => h) (Or.inl ⟨by rfl, ?_⟩) ?_ ?_
  rotate_left
  · intro w'
    go_simp
    with_reducible rfl
  rotate_left
  · simp only [Act.put, List.setIfInBounds_toArray, List.set_cons_zero, List.set_cons_succ, i64_w, i32_w]
    rfl
  refine done_ (done_of HT_.out (by kernel_rfl)) ?_
  try clear hHeld
  go_wp2
  go_ret
  exact ⟨by first | rfl | (simp; done), HB8.out⟩
end Go.Proofs.Ytibipbfmhbkpiaa.HeapDI
