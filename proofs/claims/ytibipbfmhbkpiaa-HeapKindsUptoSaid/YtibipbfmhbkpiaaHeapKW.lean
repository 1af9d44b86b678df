/- The walk of HeapKinds. Conditions: those that stand in each theorem. Written by wip/gen/heapkw.py. -/
import Derived.Test.YtibipbfmhbkpiaaHeapKL
namespace Go.Proofs.Ytibipbfmhbkpiaa.HeapPR
open Go.RowKit Go.Proofs.YtibipbfmhbkpiaaW.PrintWords Go.Proofs.YtibipbfmhbkpiaaW.PrintLast Go.Proofs.YtibipbfmhbkpiaaW.PrintMore Go.Proofs.Ytibipbfmhbkpiaa.HeapW Go.Proofs.Ytibipbfmhbkpiaa.HeapP Go.Proofs.Ytibipbfmhbkpiaa.MapAt Go.Proofs.Ytibipbfmhbkpiaa.Q
set_option linter.unusedVariables false
set_option linter.unusedSimpArgs false
theorem below_chain {w w1 w2 : World} (h : Below w.heap.size w w1) (k : Below w.heap.size w1 w2) : Below w.heap.size w w2 := h.trans k
theorem came_le (l : List (Kt × Pt)) (i : Nat) : (cameL l i).length ≤ i := by
  unfold cameL
  rw [List.length_map]
  exact Nat.le_trans (List.length_filter_le _ _) (by simp)
theorem gone_step {l : List Kt} {i k : Nat} {x y : Kt} (h : (false = true) ↔ ∃ k', i < k' ∧ k' < k ∧ l.getD k' default = l.getD i default) (hx : x = l.getD k default) (hy : y = l.getD i default) (hik : i < k) : (x.1 == y.1 && x.2 == y.2) = true ↔ ∃ k', i < k' ∧ k' < k + 1 ∧ l.getD k' default = l.getD i default := by
  rw [Bool.and_eq_true, beq_iff_eq, beq_iff_eq]
  constructor
  · rintro ⟨h1, h2⟩
    exact ⟨k, hik, by omega, by rw [← hx, ← hy]; exact Prod.ext h1 h2⟩
  · rintro ⟨k', h1, h2, h3⟩
    by_cases e : k' = k
    · subst e
      rw [← hx, ← hy] at h3
      rw [h3]
      exact ⟨rfl, rfl⟩
    · exact absurd (h.2 ⟨k', h1, by omega, h3⟩) (by decide)
def kinds.T11 : Bool × List (List Nat × List Nat) := (true, [([], []), ([], []), ([], []), ([1, 2], [1, 2]), ([3], [3]), ([], []), ([], []), ([5, 6], [5, 6]), ([7], [7]), ([], []), ([8, 9], [8, 9]), ([0, 4, 10], [0, 4, 10]), ([11], [11])])
def kinds.B11 : List Nat := [0, 0, 0, 6, 14, 0, 0, 96, 224, 0, 992, 2047, 4095]
theorem kinds.tab11 : rtab .any (opsOf Try.f6 11) = kinds.T11 := by kernel_rfl
theorem kinds.bits11 : waitsOk kinds.T11.2 kinds.B11 = true := by kernel_rfl
def kinds.T20 : Bool × List (List Nat × List Nat) := (true, [([], []), ([0], [0]), ([1], [1]), ([1], [1]), ([2, 3, 1], [1, 2, 3]), ([4, 1], [1, 4]), ([1], [1]), ([1], [1]), ([6, 7, 1], [1, 6, 7]), ([8, 1], [1, 8]), ([5, 9, 1], [1, 5, 9]), ([1, 10], [1, 10]), ([11, 1, 0, 1, 2, 3, 4, 5, 6, 7, 8, 9, 10, 11], [0, 11])])
def kinds.B20 : List Nat := [0, 1, 3, 3, 15, 31, 3, 3, 195, 451, 1023, 2047, 4095]
theorem kinds.tab20 : rtab .any (opsOf Try.f6 20) = kinds.T20 := by kernel_rfl
theorem kinds.bits20 : waitsOk kinds.T20.2 kinds.B20 = true := by kernel_rfl
def kinds.T21 : Bool × List (List Nat × List Nat) := (true, [([], []), ([0], [0]), ([1], [1]), ([2], [2]), ([3, 2], [2, 3]), ([4, 2, 2], [2, 4]), ([5], [5]), ([5], [5]), ([6, 7, 5], [5, 6, 7]), ([8, 5], [5, 8]), ([5], [5]), ([5], [5]), ([10, 11, 5], [5, 10, 11]), ([12, 5], [5, 12]), ([9, 13, 5], [5, 9, 13]), ([5, 14, 2], [2, 5, 14]), ([2, 15], [2, 15])])
def kinds.B21 : List Nat := [0, 1, 3, 7, 15, 31, 63, 63, 255, 511, 63, 63, 3135, 7231, 16383, 32767, 65535]
theorem kinds.tab21 : rtab .any (opsOf Try.f6 21) = kinds.T21 := by kernel_rfl
theorem kinds.bits21 : waitsOk kinds.T21.2 kinds.B21 = true := by kernel_rfl
def kinds.T27 : Bool × List (List Nat × List Nat) := (true, [([], []), ([0], [0]), ([1], [1]), ([1], [1]), ([1], [1]), ([3, 4, 1], [1, 3, 4]), ([5, 1], [1, 5]), ([2, 6, 1], [1, 2, 6]), ([1, 7], [1, 7]), ([8, 1], [8]), ([9], [9]), ([9], [9]), ([9], [9]), ([11, 12, 9], [9, 11, 12]), ([13, 9], [9, 13]), ([9], [9]), ([14, 15, 9], [9, 14, 15]), ([10, 16, 9], [9, 10, 16]), ([9, 17], [9, 17]), ([18, 9], [18]), ([19], [19]), ([19, 20], [19, 20]), ([21, 19], [21]), ([22], [22]), ([22], [22]), ([23, 24, 22], [22, 23, 24]), ([22, 25], [22, 25]), ([26, 22, 0, 1, 2, 3, 4, 5, 6, 7, 8, 9, 10, 11, 12, 13, 14, 15, 16, 17, 18, 19, 20, 21, 22, 23, 24, 25, 26], [26])])
def kinds.B27 : List Nat := [0, 1, 3, 3, 3, 27, 59, 127, 255, 511, 1023, 1023, 1023, 7167, 15359, 1023, 64511, 131071, 262143, 524287, 1048575, 2097151, 4194303, 8388607, 8388607, 33554431, 67108863, 134217727]
theorem kinds.tab27 : rtab .any (opsOf Try.f6 27) = kinds.T27 := by kernel_rfl
theorem kinds.bits27 : waitsOk kinds.T27.2 kinds.B27 = true := by kernel_rfl
set_option maxHeartbeats 8000000 in
set_option maxRecDepth 100000 in
theorem kinds_walk (A0 : Option Addr) (c0 : Nat) (l : List Kt) (A1 : Option Addr) (c1 : Nat) (ds : List Int) (w : World) (hr : Kd.C kPt w A0 l.length l) (hc : l.length ≤ c0) (hl : l.length ≤ 1048576) (hk : ∀ x ∈ l, okK x) (hr1 : Kd.C (Kd.int .i64) w A1 ds.length ds) (hc1 : ds.length ≤ c1) :
    Calls Try.prog 6 #[.slice A0 l.length c0, .slice A1 ds.length c1] w fun e w' => e = .returned (.bool true) ∧ Below w.heap.size w w' := by
  have HR := Aside0.mk hr
  have HC := Aside0.mk hc
  have HL := Aside0.mk hl
  have HK := Aside0.mk hk
  have HR1 := Aside0.mk hr1
  have HC1 := Aside0.mk hc1
  clear hr hc hl hk hr1 hc1
  go_enter Try.func6, Try.ntmps6
  go_wp2_with fail
  refine (new_calls 24 w).mono ?_
  rintro e w2 ⟨g, b, rfl, h, hb⟩
  have HB2 := Aside0.mk hb
  have H2 := Aside0.mk h
  clear h hb
  go_wp2_with fail
  refine (HeapSI.alive_calls w2).mono ?_
  rintro e w3 ⟨rfl, hb⟩
  have HB3 := Aside0.mk (below_step HB2.out hb)
  have H3 := Aside0.mk (H2.out.below hb)
  clear hb HB2 H2
  go_upto_if 29 with (fail)
  go_cut [6, 30, 31] (fun v6 v30 v31 wc => ∃ n : Nat, v6 = .int .i64 n ∧ Aside0 (n ≤ l.length ∧ n ≤ ds.length) ∧ Aside0 (wc = w3))
  case first =>
    by_cases hlt : ds.length < l.length
    · have hd : decide (ds.length < l.length) = true := decide_eq_true hlt
      have HLT := Aside0.mk hlt
      clear hlt
      rw [hd]
      go_wp2
      go_meet
      case rel => exact ⟨ds.length, rfl, ⟨by have := HLT.out; omega, Nat.le_refl _⟩, ⟨rfl⟩⟩
    · have hd : decide (ds.length < l.length) = false := decide_eq_false hlt
      have HLT := Aside0.mk hlt
      clear hlt
      rw [hd]
      go_wp2
      go_meet
      case rel => exact ⟨l.length, rfl, ⟨Nat.le_refl _, by have := HLT.out; omega⟩, ⟨rfl⟩⟩

  case rest =>
    obtain ⟨n, rfl, HN, HWC⟩ := hcut
    have hwc := HWC.out
    subst hwc
    clear HWC
    have hqp := eq_point
    have hqr := eq_rider
    go_wp2_with fail
    go_loopg [8] n (fun kq v8 w' => ∃ (i : Nat) (hl : List It) (A : Option Addr) (cap : Nat), v8 = .int .i64 i ∧ Aside0 (i + kq = n) ∧ Aside0 (HAt w' w.heap.size g (.func (.func 24) #[] #[]) A cap b hl i) ∧ Aside0 (RelM hl i (cameL (plL l ds n) i) ∧ HeapOK soon hl) ∧ Aside0 (Below w.heap.size w w'))
    case atStart => exact ⟨0, [], none, 0, rfl, ⟨by omega⟩, H3, ⟨RelM.empty, fun j h1 h2 => absurd h2 (Nat.not_lt_zero _)⟩, HB3⟩
    case round =>
      clear H3 HB3
      obtain ⟨i, hl, A, cap, rfl, HI, H, HM, HB⟩ := hrel
      cases gk with
      | zero =>
        have hi : i = n := by have := HI.out; omega
        rw [hi] at HM H
        have hgt : decide (i < n) = false := decide_eq_false (by omega)
        clear hi
        obtain ⟨HM1, HM2⟩ : Aside0 (RelM hl n (cameL (plL l ds n) n)) ∧ Aside0 (HeapOK soon hl) := ⟨⟨HM.out.1⟩, ⟨HM.out.2⟩⟩
        clear HM
        obtain ⟨C, hC⟩ : ∃ C : Int, C = (n : Int) := ⟨_, rfl⟩
        rw [← hC] at H HM1
        clear hC
        go_wp2_with fail
        go_loopg [7, 9] n (fun kq v7 v9 w' => ∃ (i : Nat) (bst : Int), v7 = .int .i64 bst ∧ v9 = .int .i64 i ∧ Aside0 (i + kq = n) ∧ Aside0 (BestAt l ds n i bst) ∧ Aside0 (HAt w' w.heap.size g (.func (.func 24) #[] #[]) A cap b hl C) ∧ Aside0 (Below w.heap.size w w'))
        case atStart => exact ⟨0, -1, rfl, rfl, ⟨by omega⟩, ⟨BestAt.start l ds n⟩, H, HB⟩
        case round =>
          clear H HB hgt
          obtain ⟨i, bst, rfl, rfl, HI, HBA, H, HB⟩ := hrel
          cases gk with
          | zero =>
            have hi : i = n := by have := HI.out; omega
            rw [hi] at HBA
            have hgt : decide (i < n) = false := decide_eq_false (by omega)
            clear hi
            go_wp2_with fail
            have HBA0 := HBA.out
            rcases HBA.out with ⟨hb, _⟩ | ⟨b', hb, _⟩
            · subst hb
              have hl0 := BestAt.none HBA0 HM1.out
              subst hl0
              clear HBA0
              go_wp2_with fail
              refine (first_none w.heap.size g _ A cap b C _ H.out).mono ?_
              rintro e w20 ⟨rfl, hb⟩
              have HB20 := Aside0.mk (below_step HB.out hb)
              clear hb
              have HX12 : Aside0 (((w20.alloc (.cells #[.int .i16 0, .int .i16 0] 66)).alloc (.cells #[.int .i64 0, .int .i64 0] 68)).heap[w20.heap.size]? = some (.cells #[.int .i16 0, .int .i16 0] 66 (0, 0))) := ⟨blk_alloc (blk_new w20 _) _⟩
              have HX13 : Aside0 (((w20.alloc (.cells #[.int .i16 0, .int .i16 0] 66)).alloc (.cells #[.int .i64 0, .int .i64 0] 68)).heap[w20.heap.size + 1]? = some (.cells #[.int .i64 0, .int .i64 0] 68 (0, 0))) := ⟨by have h := blk_new (w20.alloc (.cells #[.int .i16 0, .int .i16 0] 66)) (.cells #[.int .i64 0, .int .i64 0] 68); rw [World.size_alloc] at h; exact h⟩
              have HQ21 : Aside0 (Below w20.heap.size w20 ((w20.alloc (.cells #[.int .i16 0, .int .i16 0] 66)).alloc (.cells #[.int .i64 0, .int .i64 0] 68))) := ⟨below_alloc (below_alloc (Below.refl _ _) _) _⟩
              go_wp2_with (first | ((with_reducible refine gate_store (t := 66) (p := 12) (v := .tmp 95) rfl ?_); refine wpList_store_row rfl 66 (.tmp 12) (.tmp 95) rfl w20.heap.size #[.int .i16 0, .int .i16 0] rfl rfl _ _ HX12.out infoK rfl (by simp [Value.oneCell']) ?_; have hs := chg_row (cs := #[.int .i16 0, .int .i16 0]) HX12.out; have HY12 := Aside0.mk hs.1; have HY13 := Aside0.mk (hs.2.heap HX13.out (fun e => by have e' : w20.heap.size + 1 = w20.heap.size := e; omega)); have HQ22 := Aside0.mk (HQ21.out.trans (hs.2.below HQ21.out.size (fun k hk => by have e : k = w20.heap.size := hk; omega))); clear hs HX12 HX13 HQ21; generalize ((w20.alloc (.cells #[.int .i16 0, .int .i16 0] 66)).alloc (.cells #[.int .i64 0, .int .i64 0] 68)).setRow w20.heap.size #[.int .i16 0, .int .i16 0] = w22 at HY12 HY13 HQ22 ⊢) | ((with_reducible refine gate_store (t := 68) (p := 13) (v := .tmp 96) rfl ?_); refine wpList_store_row rfl 68 (.tmp 13) (.tmp 96) rfl (w20.heap.size + 1) #[.int .i64 0, .int .i64 0] rfl rfl _ _ HY13.out infoP rfl (by simp [Value.oneCell']) ?_; have hs := chg_row (cs := #[.int .i64 0, .int .i64 0]) HY13.out; have HZ13 := Aside0.mk hs.1; have HZ12 := Aside0.mk (hs.2.heap HY12.out (fun e => by have e' : w20.heap.size = w20.heap.size + 1 := e; omega)); have HQ23 := Aside0.mk (HQ22.out.trans (hs.2.below HQ22.out.size (fun k hk => by have e : k = w20.heap.size + 1 := hk; omega))); clear hs HY12 HY13 HQ22; generalize w22.setRow (w20.heap.size + 1) #[.int .i64 0, .int .i64 0] = w23 at HZ12 HZ13 HQ23 ⊢; have hz0 : w23.cell? ⟨w20.heap.size, 0, none⟩ = some (.int .i16 0) := (blk_cell HZ12.out 0).trans rfl; have hz1 : w23.cell? ⟨w20.heap.size, 1, none⟩ = some (.int .i16 0) := (blk_cell HZ12.out 1).trans rfl; have hy0 : w23.cell? ⟨(w20.heap.size + 1), 0, none⟩ = some (.int .i64 0) := (blk_cell HZ13.out 0).trans rfl; have hy1 : w23.cell? ⟨(w20.heap.size + 1), 1, none⟩ = some (.int .i64 0) := (blk_cell HZ13.out 1).trans rfl))
              go_ret
              exact ⟨rfl, below_step HB20.out HQ23.out⟩
            · subst hb
              obtain ⟨hbn, h0, hat⟩ := BestAt.some HBA0 HM1.out HM2.out
              have HBN := Aside0.mk hbn
              have H0 := Aside0.mk h0
              obtain ⟨x, hx⟩ : ∃ x, x = l.getD b' default := ⟨_, rfl⟩
              obtain ⟨dv, hdv⟩ : ∃ dv, dv = rd ds b' := ⟨_, rfl⟩
              rw [← hx, ← hdv] at hat
              have HXD := Aside0.mk (And.intro hx hdv)
              have q1 : (at_ hl 0).1.1 = x.1 := by rw [hat]
              have q2 : (at_ hl 0).1.2 = x.2 := by rw [hat]
              have q3 : (at_ hl 0).2.1.1 = dv := by rw [hat]
              have q4 : (at_ hl 0).2.1.2 = (b' : Int) := by rw [hat]
              have HQQ := Aside0.mk (And.intro q1 (And.intro q2 (And.intro q3 q4)))
              have hix : idxL hl x = some 0 := by have h := idx_at H.out.keys h0; rw [hat] at h; exact h
              have HIX := Aside0.mk hix
              have HKX : Aside0 (okK x) := ⟨by have h := H.out.okk _ (at_mem h0); rw [hat] at h; exact h⟩
              have hb0 : decide ((b' : Int) < 0) = false := decide_eq_false (by omega)
              have hbl : (b' : Int) < l.length := by have := HN.out; omega
              have hbd : (b' : Int) < ds.length := by have := HN.out; omega
              obtain ⟨ad, e0, hp1, hp2⟩ := at_pt HR.out b' (by omega)
              obtain ⟨ad1, e1, hp3⟩ := Kd.at_int HR1.out b' (by omega) hbd
              rw [Int.toNat_natCast] at hp3
              cases e0
              cases e1
              rw [← hx] at hp1 hp2
              rw [← hdv] at hp3
              have HP := Aside0.mk (And.intro hp1 (And.intro hp2 hp3))
              clear hbn h0 hat q1 q2 q3 q4 hix hp1 hp2 hp3 hx hdv HBA0
              go_wp2_with fail
              refine (first_calls w.heap.size g _ A cap b hl C _ H.out H0.out).mono ?_
              rintro e w20 ⟨rfl, hb⟩
              rw [HQQ.out.1, HQQ.out.2.1, HQQ.out.2.2.1, HQQ.out.2.2.2]
              have HB20 := Aside0.mk (below_step HB.out hb)
              have H20 := Aside0.mk (H.out.below hb)
              clear hb H HB
              have HX12 : Aside0 (((w20.alloc (.cells #[.int .i16 0, .int .i16 0] 66)).alloc (.cells #[.int .i64 0, .int .i64 0] 68)).heap[w20.heap.size]? = some (.cells #[.int .i16 0, .int .i16 0] 66 (0, 0))) := ⟨blk_alloc (blk_new w20 _) _⟩
              have HX13 : Aside0 (((w20.alloc (.cells #[.int .i16 0, .int .i16 0] 66)).alloc (.cells #[.int .i64 0, .int .i64 0] 68)).heap[w20.heap.size + 1]? = some (.cells #[.int .i64 0, .int .i64 0] 68 (0, 0))) := ⟨by have h := blk_new (w20.alloc (.cells #[.int .i16 0, .int .i16 0] 66)) (.cells #[.int .i64 0, .int .i64 0] 68); rw [World.size_alloc] at h; exact h⟩
              have HQ21 : Aside0 (Below w20.heap.size w20 ((w20.alloc (.cells #[.int .i16 0, .int .i16 0] 66)).alloc (.cells #[.int .i64 0, .int .i64 0] 68))) := ⟨below_alloc (below_alloc (Below.refl _ _) _) _⟩
              go_wp2_with (first | ((with_reducible refine gate_store (t := 66) (p := 12) (v := .tmp 95) rfl ?_); refine wpList_store_row rfl 66 (.tmp 12) (.tmp 95) rfl w20.heap.size #[.int .i16 x.1, .int .i16 x.2] rfl rfl _ _ HX12.out infoK rfl (by simp [Value.oneCell']) ?_; have hs := chg_row (cs := #[.int .i16 x.1, .int .i16 x.2]) HX12.out; have HY12 := Aside0.mk hs.1; have HY13 := Aside0.mk (hs.2.heap HX13.out (fun e => by have e' : w20.heap.size + 1 = w20.heap.size := e; omega)); have HQ22 := Aside0.mk (HQ21.out.trans (hs.2.below HQ21.out.size (fun k hk => by have e : k = w20.heap.size := hk; omega))); clear hs HX12 HX13 HQ21; generalize ((w20.alloc (.cells #[.int .i16 0, .int .i16 0] 66)).alloc (.cells #[.int .i64 0, .int .i64 0] 68)).setRow w20.heap.size #[.int .i16 x.1, .int .i16 x.2] = w22 at HY12 HY13 HQ22 ⊢) | ((with_reducible refine gate_store (t := 68) (p := 13) (v := .tmp 96) rfl ?_); refine wpList_store_row rfl 68 (.tmp 13) (.tmp 96) rfl (w20.heap.size + 1) #[.int .i64 dv, .int .i64 b'] rfl rfl _ _ HY13.out infoP rfl (by simp [Value.oneCell']) ?_; have hs := chg_row (cs := #[.int .i64 dv, .int .i64 b']) HY13.out; have HZ13 := Aside0.mk hs.1; have HZ12 := Aside0.mk (hs.2.heap HY12.out (fun e => by have e' : w20.heap.size = w20.heap.size + 1 := e; omega)); have HQ23 := Aside0.mk (HQ22.out.trans (hs.2.below HQ22.out.size (fun k hk => by have e : k = w20.heap.size + 1 := hk; omega))); clear hs HY12 HY13 HQ22; generalize w22.setRow (w20.heap.size + 1) #[.int .i64 dv, .int .i64 b'] = w23 at HZ12 HZ13 HQ23 ⊢; have HB23 := Aside0.mk (below_step HB20.out HQ23.out); have H23 := Aside0.mk (H20.out.below HQ23.out); clear HQ23 H20; have hp1 := pw_cell_below HB23.out HP.out.1; have hp2 := pw_cell_below HB23.out HP.out.2.1))
              refine (rank_calls w.heap.size g _ A cap b hl C x _ H23.out HKX.out HIX.out).mono ?_
              rintro e w30 ⟨rfl, hb⟩
              rw [HQQ.out.2.2.1, HQQ.out.2.2.2]
              have HB30 := Aside0.mk (below_step HB23.out hb)
              have HZ12' := Aside0.mk ((hb.block _ (blk_lt HZ12.out)).trans HZ12.out)
              have HZ13' := Aside0.mk ((hb.block _ (blk_lt HZ13.out)).trans HZ13.out)
              have HLT : Aside0 (w20.heap.size + 1 < w30.heap.size) := ⟨blk_lt HZ13'.out⟩
              clear hb hp1 hp2 H23 HB23 HZ12 HZ13
              have HX15 : Aside0 ((w30.alloc (.cells #[.int .i64 0, .int .i64 0] 68)).heap[w30.heap.size]? = some (.cells #[.int .i64 0, .int .i64 0] 68 (0, 0))) := ⟨blk_new _ _⟩
              have HX12 := Aside0.mk (blk_alloc HZ12'.out (.cells #[.int .i64 0, .int .i64 0] 68))
              have HX13 := Aside0.mk (blk_alloc HZ13'.out (.cells #[.int .i64 0, .int .i64 0] 68))
              have HB31 := Aside0.mk (below_alloc HB30.out (.cells #[.int .i64 0, .int .i64 0] 68))
              clear HZ12' HZ13'
              go_wp2_with ((with_reducible refine gate_store (t := 68) (p := 15) (v := .tmp 119) rfl ?_); refine wpList_store_row rfl 68 (.tmp 15) (.tmp 119) rfl w30.heap.size #[.int .i64 dv, .int .i64 b'] rfl rfl _ _ HX15.out infoP rfl (by simp [Value.oneCell']) ?_; have hs := chg_row (cs := #[.int .i64 dv, .int .i64 b']) HX15.out; have HY15 := Aside0.mk hs.1; have HY12 := Aside0.mk (hs.2.heap HX12.out (fun e => by have e' : w20.heap.size = w30.heap.size := e; have := HLT.out; omega)); have HY13 := Aside0.mk (hs.2.heap HX13.out (fun e => by have e' : w20.heap.size + 1 = w30.heap.size := e; have := HLT.out; omega)); have HB32 := Aside0.mk (HB31.out.trans (hs.2.below HB31.out.size (fun k hk => by have e : k = w30.heap.size := hk; have := HB30.out.size; omega))); clear hs HX15 HX12 HX13 HB31; generalize (w30.alloc (.cells #[.int .i64 0, .int .i64 0] 68)).setRow w30.heap.size #[.int .i64 dv, .int .i64 b'] = w32 at HY15 HY12 HY13 HB32 ⊢)
              have HV12 : Aside0 (w32.drew.heap[w20.heap.size]? = _) := ⟨HY12.out⟩
              have HV13 : Aside0 (w32.drew.heap[w20.heap.size + 1]? = _) := ⟨HY13.out⟩
              have HV15 : Aside0 (w32.drew.heap[w30.heap.size]? = _) := ⟨HY15.out⟩
              have HB33 : Aside0 (Below w.heap.size w w32.drew) := ⟨below_drew HB32.out⟩
              clear HY12 HY13 HY15 HB32
              refine start_ (n := 28) (S := fun w' => w'.cell? ⟨w20.heap.size, 0, none⟩ = some (.int .i16 x.1) ∧ w'.cell? ⟨w20.heap.size, 1, none⟩ = some (.int .i16 x.2) ∧ w'.cell? ⟨w20.heap.size + 1, 0, none⟩ = some (.int .i64 dv) ∧ w'.cell? ⟨w20.heap.size + 1, 1, none⟩ = some (.int .i64 b') ∧ w'.cell? ⟨w30.heap.size, 0, none⟩ = some (.int .i64 dv) ∧ w'.cell? ⟨w30.heap.size, 1, none⟩ = some (.int .i64 b') ∧ w'.cell? (ad.add (b' * 2)) = some (.int .i16 x.1) ∧ w'.cell? ⟨(ad.add (b' * 2)).block, (ad.add (b' * 2)).off + 1, none⟩ = some (.int .i16 x.2) ∧ w'.cell? (ad1.add b') = some (.int .i64 dv)) (ds := []) #[false, false, false, false, false, false, false, false, false, false, false, false, false, false, false, false, false, false, false, false, false, false, false, false, false, false, false, false] (by kernel_rfl) rfl rfl ⟨(blk_cell HV12.out 0).trans rfl, (blk_cell HV12.out 1).trans rfl, (blk_cell HV13.out 0).trans rfl, (blk_cell HV13.out 1).trans rfl, (blk_cell HV15.out 0).trans rfl, (blk_cell HV15.out 1).trans rfl, pw_cell_below HB33.out HP.out.1, pw_cell_below HB33.out HP.out.2.1, pw_cell_below HB33.out HP.out.2.2⟩ (fun hHeld => ?_)
              refine with_tabW kinds.tab27 kinds.bits27 (fun HT_ HW_ => ?_)
              generalize w32.drew = w33 at HV12 HV13 HV15 HB33 hHeld ⊢
              refine pure_ (i := 0) (N := some 121) (v := ?_) (a' := ?_) #[true, false, false, false, false, false, false, false, false, false, false, false, false, false, false, false, false, false, false, false, false, false, false, false, false, false, false, false] rfl rfl (any_of HT_.out (by kernel_rfl)) (fun _ _ _ h => h) (Or.inl ⟨by rfl, ?_⟩) ?_ ?_
              rotate_left
              · intro w'
                go_simp
                with_reducible rfl
              rotate_left
              · simp only [Act.put, List.setIfInBounds_toArray, List.set_cons_zero, List.set_cons_succ, i64_w, i32_w]
                rfl
              refine pure_ (i := 1) (N := some 122) (v := ?_) (a' := ?_) #[true, true, false, false, false, false, false, false, false, false, false, false, false, false, false, false, false, false, false, false, false, false, false, false, false, false, false, false] rfl rfl (any_of HT_.out (by kernel_rfl)) (fun _ _ _ h => h) (Or.inl ⟨by rfl, ?_⟩) ?_ ?_
              rotate_left
              · intro w'
                go_simp
                with_reducible rfl
              rotate_left
              · simp only [Act.put, List.setIfInBounds_toArray, List.set_cons_zero, List.set_cons_succ, i64_w, i32_w]
                rfl
              refine pure_ (i := 3) (N := some 124) (v := ?_) (a' := ?_) #[true, true, false, true, false, false, false, false, false, false, false, false, false, false, false, false, false, false, false, false, false, false, false, false, false, false, false, false] rfl rfl (any_of HT_.out (by kernel_rfl)) (fun _ _ _ h => h) (Or.inl ⟨by rfl, ?_⟩) ?_ ?_
              rotate_left
              · intro w'
                go_simp
                with_reducible rfl
              rotate_left
              · simp only [Act.put, List.setIfInBounds_toArray, List.set_cons_zero, List.set_cons_succ, i64_w, i32_w]
                rfl
              refine pure_ (i := 4) (N := some 125) (v := ?_) (a' := ?_) #[true, true, false, true, true, false, false, false, false, false, false, false, false, false, false, false, false, false, false, false, false, false, false, false, false, false, false, false] rfl rfl (any_of HT_.out (by kernel_rfl)) (fun _ _ _ h => h) (Or.inl ⟨by rfl, ?_⟩) ?_ ?_
              rotate_left
              · intro w'
                go_simp
                with_reducible rfl
              rotate_left
              · simp only [Act.put, List.setIfInBounds_toArray, List.set_cons_zero, List.set_cons_succ, i64_w, i32_w]
                rfl
              refine pure_ (i := 5) (N := some 126) (v := ?_) (a' := ?_) #[true, true, false, true, true, true, false, false, false, false, false, false, false, false, false, false, false, false, false, false, false, false, false, false, false, false, false, false] rfl rfl (any_of HT_.out (by kernel_rfl)) (fun _ _ _ h => h) (Or.inl ⟨by rfl, ?_⟩) ?_ ?_
              rotate_left
              · intro w'
                go_simp
                with_reducible rfl
              rotate_left
              · simp only [Act.put, List.setIfInBounds_toArray, List.set_cons_zero, List.set_cons_succ, i64_w, i32_w]
                rfl
              refine take_ (i := 2) (N := some 123) (v := ?_) (a' := ?_) #[true, true, true, true, true, true, false, false, false, false, false, false, false, false, false, false, false, false, false, false, false, false, false, false, false, false, false, false] rfl rfl (take_ofW HT_.out HW_.out (by kernel_rfl)) (fun _ _ _ h => h) (Or.inl ⟨by rfl, ?_⟩) hHeld ?_ ?_
              rotate_left
              · rintro w' ⟨s0, s1, s2, s3, s4, s5, s6, s7, s8⟩
                go_simp
                with_reducible rfl
              rotate_left
              · simp only [Act.put, List.setIfInBounds_toArray, List.set_cons_zero, List.set_cons_succ, i64_w, i32_w]
                rfl
              refine take_ (i := 6) (N := some 127) (v := ?_) (a' := ?_) #[true, true, true, true, true, true, true, false, false, false, false, false, false, false, false, false, false, false, false, false, false, false, false, false, false, false, false, false] rfl rfl (take_ofW HT_.out HW_.out (by kernel_rfl)) (fun _ _ _ h => h) (Or.inl ⟨by rfl, ?_⟩) hHeld ?_ ?_
              rotate_left
              · rintro w' ⟨s0, s1, s2, s3, s4, s5, s6, s7, s8⟩
                go_simp
                with_reducible rfl
              rotate_left
              · simp only [Act.put, List.setIfInBounds_toArray, List.set_cons_zero, List.set_cons_succ, i64_w, i32_w]
                rfl
              refine pure_ (i := 7) (N := some 128) (v := ?_) (a' := ?_) #[true, true, true, true, true, true, true, true, false, false, false, false, false, false, false, false, false, false, false, false, false, false, false, false, false, false, false, false] rfl rfl (any_of HT_.out (by kernel_rfl)) (fun _ _ _ h => h) (Or.inl ⟨by rfl, ?_⟩) ?_ ?_
              rotate_left
              · intro w'
                go_simp
                with_reducible rfl
              rotate_left
              · simp only [Act.put, List.setIfInBounds_toArray, List.set_cons_zero, List.set_cons_succ, i64_w, i32_w]
                rfl
              refine pure_ (i := 8) (N := some 129) (v := ?_) (a' := ?_) #[true, true, true, true, true, true, true, true, true, false, false, false, false, false, false, false, false, false, false, false, false, false, false, false, false, false, false, false] rfl rfl (any_of HT_.out (by kernel_rfl)) (fun _ _ _ h => h) (Or.inl ⟨by rfl, ?_⟩) ?_ ?_
              rotate_left
              · intro w'
                go_simp
                with_reducible rfl
              rotate_left
              · simp only [Act.put, List.setIfInBounds_toArray, List.set_cons_zero, List.set_cons_succ, i64_w, i32_w]
                rfl
              refine pure_ (i := 9) (N := some 130) (v := ?_) (a' := ?_) #[true, true, true, true, true, true, true, true, true, true, false, false, false, false, false, false, false, false, false, false, false, false, false, false, false, false, false, false] rfl rfl (any_of HT_.out (by kernel_rfl)) (fun _ _ _ h => h) (Or.inl ⟨by rfl, ?_⟩) ?_ ?_
              rotate_left
              · intro w'
                go_simp
                with_reducible rfl
              rotate_left
              · simp only [Act.put, List.setIfInBounds_toArray, List.set_cons_zero, List.set_cons_succ, i64_w, i32_w]
                rfl
              refine pure_ (i := 11) (N := some 132) (v := ?_) (a' := ?_) #[true, true, true, true, true, true, true, true, true, true, false, true, false, false, false, false, false, false, false, false, false, false, false, false, false, false, false, false] rfl rfl (any_of HT_.out (by kernel_rfl)) (fun _ _ _ h => h) (Or.inl ⟨by rfl, ?_⟩) ?_ ?_
              rotate_left
              · intro w'
                go_simp
                with_reducible rfl
              rotate_left
              · simp only [Act.put, List.setIfInBounds_toArray, List.set_cons_zero, List.set_cons_succ, i64_w, i32_w]
                rfl
              refine pure_ (i := 12) (N := some 133) (v := ?_) (a' := ?_) #[true, true, true, true, true, true, true, true, true, true, false, true, true, false, false, false, false, false, false, false, false, false, false, false, false, false, false, false] rfl rfl (any_of HT_.out (by kernel_rfl)) (fun _ _ _ h => h) (Or.inl ⟨by rfl, ?_⟩) ?_ ?_
              rotate_left
              · intro w'
                go_simp
                with_reducible rfl
              rotate_left
              · simp only [Act.put, List.setIfInBounds_toArray, List.set_cons_zero, List.set_cons_succ, i64_w, i32_w]
                rfl
              refine pure_ (i := 13) (N := some 134) (v := ?_) (a' := ?_) #[true, true, true, true, true, true, true, true, true, true, false, true, true, true, false, false, false, false, false, false, false, false, false, false, false, false, false, false] rfl rfl (any_of HT_.out (by kernel_rfl)) (fun _ _ _ h => h) (Or.inl ⟨by rfl, ?_⟩) ?_ ?_
              rotate_left
              · intro w'
                go_simp
                with_reducible rfl
              rotate_left
              · simp only [Act.put, List.setIfInBounds_toArray, List.set_cons_zero, List.set_cons_succ, i64_w, i32_w]
                rfl
              refine pure_ (i := 15) (N := some 136) (v := ?_) (a' := ?_) #[true, true, true, true, true, true, true, true, true, true, false, true, true, true, false, true, false, false, false, false, false, false, false, false, false, false, false, false] rfl rfl (any_of HT_.out (by kernel_rfl)) (fun _ _ _ h => h) (Or.inl ⟨by rfl, ?_⟩) ?_ ?_
              rotate_left
              · intro w'
                go_simp
                with_reducible rfl
              rotate_left
              · simp only [Act.put, List.setIfInBounds_toArray, List.set_cons_zero, List.set_cons_succ, i64_w, i32_w]
                rfl
              refine take_ (i := 10) (N := some 131) (v := ?_) (a' := ?_) #[true, true, true, true, true, true, true, true, true, true, true, true, true, true, false, true, false, false, false, false, false, false, false, false, false, false, false, false] rfl rfl (take_ofW HT_.out HW_.out (by kernel_rfl)) (fun _ _ _ h => h) (Or.inl ⟨by rfl, ?_⟩) hHeld ?_ ?_
              rotate_left
              · rintro w' ⟨s0, s1, s2, s3, s4, s5, s6, s7, s8⟩
                go_simp
                with_reducible rfl
              rotate_left
              · simp only [Act.put, List.setIfInBounds_toArray, List.set_cons_zero, List.set_cons_succ, i64_w, i32_w]
                rfl
              refine take_ (i := 14) (N := some 135) (v := ?_) (a' := ?_) #[true, true, true, true, true, true, true, true, true, true, true, true, true, true, true, true, false, false, false, false, false, false, false, false, false, false, false, false] rfl rfl (take_ofW HT_.out HW_.out (by kernel_rfl)) (fun _ _ _ h => h) (Or.inl ⟨by rfl, ?_⟩) hHeld ?_ ?_
              rotate_left
              · rintro w' ⟨s0, s1, s2, s3, s4, s5, s6, s7, s8⟩
                go_simp
                with_reducible rfl
              rotate_left
              · simp only [Act.put, List.setIfInBounds_toArray, List.set_cons_zero, List.set_cons_succ, i64_w, i32_w]
                rfl
              refine pure_ (i := 16) (N := some 137) (v := ?_) (a' := ?_) #[true, true, true, true, true, true, true, true, true, true, true, true, true, true, true, true, true, false, false, false, false, false, false, false, false, false, false, false] rfl rfl (any_of HT_.out (by kernel_rfl)) (fun _ _ _ h => h) (Or.inl ⟨by rfl, ?_⟩) ?_ ?_
              rotate_left
              · intro w'
                go_simp
                with_reducible rfl
              rotate_left
              · simp only [Act.put, List.setIfInBounds_toArray, List.set_cons_zero, List.set_cons_succ, i64_w, i32_w]
                rfl
              refine pure_ (i := 17) (N := some 138) (v := ?_) (a' := ?_) #[true, true, true, true, true, true, true, true, true, true, true, true, true, true, true, true, true, true, false, false, false, false, false, false, false, false, false, false] rfl rfl (any_of HT_.out (by kernel_rfl)) (fun _ _ _ h => h) (Or.inl ⟨by rfl, ?_⟩) ?_ ?_
              rotate_left
              · intro w'
                go_simp
                with_reducible rfl
              rotate_left
              · simp only [Act.put, List.setIfInBounds_toArray, List.set_cons_zero, List.set_cons_succ, i64_w, i32_w]
                rfl
              refine pure_ (i := 18) (N := some 139) (v := ?_) (a' := ?_) #[true, true, true, true, true, true, true, true, true, true, true, true, true, true, true, true, true, true, true, false, false, false, false, false, false, false, false, false] rfl rfl (any_of HT_.out (by kernel_rfl)) (fun _ _ _ h => h) (Or.inl ⟨by rfl, ?_⟩) ?_ ?_
              rotate_left
              · intro w'
                go_simp
                with_reducible rfl
              rotate_left
              · simp only [Act.put, List.setIfInBounds_toArray, List.set_cons_zero, List.set_cons_succ, i64_w, i32_w]
                rfl
              refine pure_ (i := 19) (N := some 140) (v := ?_) (a' := ?_) #[true, true, true, true, true, true, true, true, true, true, true, true, true, true, true, true, true, true, true, true, false, false, false, false, false, false, false, false] rfl rfl (any_of HT_.out (by kernel_rfl)) (fun _ _ _ h => h) (Or.inl ⟨by rfl, ?_⟩) ?_ ?_
              rotate_left
              · intro w'
                go_simp
                with_reducible rfl
              rotate_left
              · simp only [Act.put, List.setIfInBounds_toArray, List.set_cons_zero, List.set_cons_succ, i64_w, i32_w]
                rfl
              refine pure_ (i := 20) (N := some 141) (v := ?_) (a' := ?_) #[true, true, true, true, true, true, true, true, true, true, true, true, true, true, true, true, true, true, true, true, true, false, false, false, false, false, false, false] rfl rfl (any_of HT_.out (by kernel_rfl)) (fun _ _ _ h => h) (Or.inl ⟨by rfl, ?_⟩) ?_ ?_
              rotate_left
              · intro w'
                go_simp
                with_reducible rfl
              rotate_left
              · simp only [Act.put, List.setIfInBounds_toArray, List.set_cons_zero, List.set_cons_succ, i64_w, i32_w]
                rfl
              refine pure_ (i := 21) (N := some 142) (v := ?_) (a' := ?_) #[true, true, true, true, true, true, true, true, true, true, true, true, true, true, true, true, true, true, true, true, true, true, false, false, false, false, false, false] rfl rfl (any_of HT_.out (by kernel_rfl)) (fun _ _ _ h => h) (Or.inl ⟨by rfl, ?_⟩) ?_ ?_
              rotate_left
              · intro w'
                go_simp
                with_reducible rfl
              rotate_left
              · simp only [Act.put, List.setIfInBounds_toArray, List.set_cons_zero, List.set_cons_succ, i64_w, i32_w]
                rfl
              refine pure_ (i := 22) (N := some 143) (v := ?_) (a' := ?_) #[true, true, true, true, true, true, true, true, true, true, true, true, true, true, true, true, true, true, true, true, true, true, true, false, false, false, false, false] rfl rfl (any_of HT_.out (by kernel_rfl)) (fun _ _ _ h => h) (Or.inl ⟨by rfl, ?_⟩) ?_ ?_
              rotate_left
              · intro w'
                go_simp
                with_reducible rfl
              rotate_left
              · simp only [Act.put, List.setIfInBounds_toArray, List.set_cons_zero, List.set_cons_succ, i64_w, i32_w]
                rfl
              refine take_ (i := 23) (N := some 144) (v := ?_) (a' := ?_) #[true, true, true, true, true, true, true, true, true, true, true, true, true, true, true, true, true, true, true, true, true, true, true, true, false, false, false, false] rfl rfl (take_ofW HT_.out HW_.out (by kernel_rfl)) (fun _ _ _ h => h) (Or.inl ⟨by rfl, ?_⟩) hHeld ?_ ?_
              rotate_left
              · rintro w' ⟨s0, s1, s2, s3, s4, s5, s6, s7, s8⟩
                go_simp
                with_reducible rfl
              rotate_left
              · simp only [Act.put, List.setIfInBounds_toArray, List.set_cons_zero, List.set_cons_succ, i64_w, i32_w]
                rfl
              refine take_ (i := 24) (N := some 145) (v := ?_) (a' := ?_) #[true, true, true, true, true, true, true, true, true, true, true, true, true, true, true, true, true, true, true, true, true, true, true, true, true, false, false, false] rfl rfl (take_ofW HT_.out HW_.out (by kernel_rfl)) (fun _ _ _ h => h) (Or.inl ⟨by rfl, ?_⟩) hHeld ?_ ?_
              rotate_left
              · rintro w' ⟨s0, s1, s2, s3, s4, s5, s6, s7, s8⟩
                go_simp
                with_reducible rfl
              rotate_left
              · simp only [Act.put, List.setIfInBounds_toArray, List.set_cons_zero, List.set_cons_succ, i64_w, i32_w]
                rfl
              refine pure_ (i := 25) (N := some 146) (v := ?_) (a' := ?_) #[true, true, true, true, true, true, true, true, true, true, true, true, true, true, true, true, true, true, true, true, true, true, true, true, true, true, false, false] rfl rfl (any_of HT_.out (by kernel_rfl)) (fun _ _ _ h => h) (Or.inl ⟨by rfl, ?_⟩) ?_ ?_
              rotate_left
              · intro w'
                go_simp
                with_reducible rfl
              rotate_left
              · simp only [Act.put, List.setIfInBounds_toArray, List.set_cons_zero, List.set_cons_succ, i64_w, i32_w]
                rfl
              refine pure_ (i := 26) (N := some 147) (v := ?_) (a' := ?_) #[true, true, true, true, true, true, true, true, true, true, true, true, true, true, true, true, true, true, true, true, true, true, true, true, true, true, true, false] rfl rfl (any_of HT_.out (by kernel_rfl)) (fun _ _ _ h => h) (Or.inl ⟨by rfl, ?_⟩) ?_ ?_
              rotate_left
              · intro w'
                go_simp
                with_reducible rfl
              rotate_left
              · simp only [Act.put, List.setIfInBounds_toArray, List.set_cons_zero, List.set_cons_succ, i64_w, i32_w]
                rfl
              refine pure_ (i := 27) (N := some 4) (v := ?_) (a' := ?_) #[true, true, true, true, true, true, true, true, true, true, true, true, true, true, true, true, true, true, true, true, true, true, true, true, true, true, true, true] rfl rfl (any_of HT_.out (by kernel_rfl)) (fun _ _ _ h => h) (Or.inl ⟨by rfl, ?_⟩) ?_ ?_
              rotate_left
              · intro w'
                go_simp
                with_reducible rfl
              rotate_left
              · simp only [Act.put, List.setIfInBounds_toArray, List.set_cons_zero, List.set_cons_succ, i64_w, i32_w]
                rfl
              refine done_ (done_of HT_.out (by kernel_rfl)) ?_
              try clear hHeld
              try go_wp2
              go_ret
              exact ⟨rfl, HB33.out⟩
          | succ gk =>
            have hil : (i : Int) < n := by have := HI.out; omega
            go_wp2_with fail
            obtain ⟨i1, hi1⟩ : ∃ i1 : Nat, i1 = i + 1 := ⟨_, rfl⟩
            have hw1 : wrap64 ((i : Int) + 1) = (i1 : Int) := by unfold wrap64; have := HN.out; have := HL.out; omega
            have hw2 : (i : Int) + 1 = (i1 : Int) := by omega
            have HI1 := Aside0.mk hi1
            rw [hw1]
            clear hi1
            go_loopg [10, 11] (n - i1) (fun kq v10 v11 w' => ∃ (k : Nat) (gb : Bool), v10 = .bool gb ∧ v11 = .int .i64 k ∧ Aside0 (k + kq = n ∧ i1 ≤ k) ∧ Aside0 (gb = true ↔ ∃ k', i < k' ∧ k' < k ∧ l.getD k' default = l.getD i default) ∧ Aside0 (HAt w' w.heap.size g (.func (.func 24) #[] #[]) A cap b hl C) ∧ Aside0 (Below w.heap.size w w'))
            case atStart => exact ⟨i1, false, rfl, rfl, ⟨by have := HI.out; have := HI1.out; omega, Nat.le_refl _⟩, ⟨⟨fun h => absurd h (by decide), fun ⟨k', h1, h2, _⟩ => by have := HI1.out; omega⟩⟩, H, HB⟩
            case round =>
              clear H HB
              obtain ⟨k, gb, rfl, rfl, HKK, HG, H, HB⟩ := hrel
              cases gk with
              | zero =>
                have hgt : decide (k < n) = false := decide_eq_false (by have := HKK.out; omega)
                have hkn : k = n := by have := HKK.out; omega
                have HLU : Aside0 (lastUp (plL l ds n) n i = !gb) := ⟨by
                  have hg := HG.out
                  rw [hkn] at hg
                  rw [Bool.eq_iff_iff, lastUp_iff]
                  cases gb with
                  | true =>
                    simp only [Bool.not_true, Bool.false_eq_true, iff_false]
                    intro q
                    obtain ⟨k', h1, h2, h3⟩ := hg.1 rfl
                    have := q k' h2 h1
                    rw [plL_get l ds h2, plL_get l ds (show i < n by omega)] at this
                    exact this h3
                  | false =>
                    simp only [Bool.not_false, iff_true]
                    intro k' h2 h1 h3
                    rw [plL_get l ds h2, plL_get l ds (show i < n by omega)] at h3
                    have := hg.2 ⟨k', h1, h2, h3⟩
                    cases this⟩
                clear hkn
                go_wp2_with fail
                have H5 : Aside0 (HAt wr.drew w.heap.size g (.func (.func 24) #[] #[]) A cap b hl C) := ⟨H.out.below (below_drew1 (Below.refl _ _))⟩
                have HB5 : Aside0 (Below w.heap.size w wr.drew) := ⟨below_drew HB.out⟩
                clear H HB
                cases gb with
                | true =>
                  refine start_ (n := 17) (S := fun w' => True) (ds := []) #[false, false, false, false, false, false, false, false, false, false, false, false, false, false, false, false, false] (by kernel_rfl) rfl rfl trivial (fun hHeld => ?_)
                  refine with_tabW kinds.tab21 kinds.bits21 (fun HT_ HW_ => ?_)
                  generalize wr.drew = w4 at HB5 H5 hHeld ⊢
                  refine pure_ (i := 0) (N := some 74) (v := ?_) (a' := ?_) #[true, false, false, false, false, false, false, false, false, false, false, false, false, false, false, false, false] rfl rfl (any_of HT_.out (by kernel_rfl)) (fun _ _ _ h => h) (Or.inl ⟨by rfl, ?_⟩) ?_ ?_
                  rotate_left
                  · intro w'
                    go_simp
                    with_reducible rfl
                  rotate_left
                  · simp only [Act.put, List.setIfInBounds_toArray, List.set_cons_zero, List.set_cons_succ, i64_w, i32_w]
                    rfl
                  refine pure_ (i := 1) (N := some 75) (v := ?_) (a' := ?_) #[true, true, false, false, false, false, false, false, false, false, false, false, false, false, false, false, false] rfl rfl (any_of HT_.out (by kernel_rfl)) (fun _ _ _ h => h) (Or.inl ⟨by rfl, ?_⟩) ?_ ?_
                  rotate_left
                  · intro w'
                    go_simp
                    with_reducible rfl
                  rotate_left
                  · simp only [Act.put, List.setIfInBounds_toArray, List.set_cons_zero, List.set_cons_succ, i64_w, i32_w]
                    rfl
                  refine pure_ (i := 2) (N := some 76) (v := ?_) (a' := ?_) #[true, true, true, false, false, false, false, false, false, false, false, false, false, false, false, false, false] rfl rfl (any_of HT_.out (by kernel_rfl)) (fun _ _ _ h => h) (Or.inl ⟨by rfl, ?_⟩) ?_ ?_
                  rotate_left
                  · intro w'
                    go_simp
                    with_reducible rfl
                  rotate_left
                  · simp only [Act.put, List.setIfInBounds_toArray, List.set_cons_zero, List.set_cons_succ, i64_w, i32_w]
                    rfl
                  refine pure_ (i := 3) (N := some 77) (v := undef) (a' := ?_) #[true, true, true, true, false, false, false, false, false, false, false, false, false, false, false, false, false] rfl rfl (any_of HT_.out (by kernel_rfl)) (fun _ _ _ h => h) (Or.inr ⟨by rfl, rfl⟩) ?_ ?_
                  rotate_left
                  · simp only [Act.put, List.setIfInBounds_toArray, List.set_cons_zero, List.set_cons_succ, i64_w, i32_w]
                    rfl
                  refine pure_ (i := 4) (N := some 78) (v := undef) (a' := ?_) #[true, true, true, true, true, false, false, false, false, false, false, false, false, false, false, false, false] rfl rfl (any_of HT_.out (by kernel_rfl)) (fun _ _ _ h => h) (Or.inr ⟨by rfl, rfl⟩) ?_ ?_
                  rotate_left
                  · simp only [Act.put, List.setIfInBounds_toArray, List.set_cons_zero, List.set_cons_succ, i64_w, i32_w]
                    rfl
                  refine pure_ (i := 5) (N := some 79) (v := undef) (a' := ?_) #[true, true, true, true, true, true, false, false, false, false, false, false, false, false, false, false, false] rfl rfl (any_of HT_.out (by kernel_rfl)) (fun _ _ _ h => h) (Or.inr ⟨by rfl, rfl⟩) ?_ ?_
                  rotate_left
                  · simp only [Act.put, List.setIfInBounds_toArray, List.set_cons_zero, List.set_cons_succ, i64_w, i32_w]
                    rfl
                  refine pure_ (i := 6) (N := some 80) (v := undef) (a' := ?_) #[true, true, true, true, true, true, true, false, false, false, false, false, false, false, false, false, false] rfl rfl (any_of HT_.out (by kernel_rfl)) (fun _ _ _ h => h) (Or.inr ⟨by rfl, rfl⟩) ?_ ?_
                  rotate_left
                  · simp only [Act.put, List.setIfInBounds_toArray, List.set_cons_zero, List.set_cons_succ, i64_w, i32_w]
                    rfl
                  refine pure_ (i := 7) (N := some 81) (v := undef) (a' := ?_) #[true, true, true, true, true, true, true, true, false, false, false, false, false, false, false, false, false] rfl rfl (any_of HT_.out (by kernel_rfl)) (fun _ _ _ h => h) (Or.inr ⟨by rfl, rfl⟩) ?_ ?_
                  rotate_left
                  · simp only [Act.put, List.setIfInBounds_toArray, List.set_cons_zero, List.set_cons_succ, i64_w, i32_w]
                    rfl
                  refine pure_ (i := 8) (N := some 82) (v := undef) (a' := ?_) #[true, true, true, true, true, true, true, true, true, false, false, false, false, false, false, false, false] rfl rfl (any_of HT_.out (by kernel_rfl)) (fun _ _ _ h => h) (Or.inr ⟨by rfl, rfl⟩) ?_ ?_
                  rotate_left
                  · simp only [Act.put, List.setIfInBounds_toArray, List.set_cons_zero, List.set_cons_succ, i64_w, i32_w]
                    rfl
                  refine pure_ (i := 9) (N := some 83) (v := undef) (a' := ?_) #[true, true, true, true, true, true, true, true, true, true, false, false, false, false, false, false, false] rfl rfl (any_of HT_.out (by kernel_rfl)) (fun _ _ _ h => h) (Or.inr ⟨by rfl, rfl⟩) ?_ ?_
                  rotate_left
                  · simp only [Act.put, List.setIfInBounds_toArray, List.set_cons_zero, List.set_cons_succ, i64_w, i32_w]
                    rfl
                  refine pure_ (i := 10) (N := some 84) (v := undef) (a' := ?_) #[true, true, true, true, true, true, true, true, true, true, true, false, false, false, false, false, false] rfl rfl (any_of HT_.out (by kernel_rfl)) (fun _ _ _ h => h) (Or.inr ⟨by rfl, rfl⟩) ?_ ?_
                  rotate_left
                  · simp only [Act.put, List.setIfInBounds_toArray, List.set_cons_zero, List.set_cons_succ, i64_w, i32_w]
                    rfl
                  refine pure_ (i := 11) (N := some 85) (v := undef) (a' := ?_) #[true, true, true, true, true, true, true, true, true, true, true, true, false, false, false, false, false] rfl rfl (any_of HT_.out (by kernel_rfl)) (fun _ _ _ h => h) (Or.inr ⟨by rfl, rfl⟩) ?_ ?_
                  rotate_left
                  · simp only [Act.put, List.setIfInBounds_toArray, List.set_cons_zero, List.set_cons_succ, i64_w, i32_w]
                    rfl
                  refine pure_ (i := 12) (N := some 86) (v := undef) (a' := ?_) #[true, true, true, true, true, true, true, true, true, true, true, true, true, false, false, false, false] rfl rfl (any_of HT_.out (by kernel_rfl)) (fun _ _ _ h => h) (Or.inr ⟨by rfl, rfl⟩) ?_ ?_
                  rotate_left
                  · simp only [Act.put, List.setIfInBounds_toArray, List.set_cons_zero, List.set_cons_succ, i64_w, i32_w]
                    rfl
                  refine pure_ (i := 13) (N := some 87) (v := undef) (a' := ?_) #[true, true, true, true, true, true, true, true, true, true, true, true, true, true, false, false, false] rfl rfl (any_of HT_.out (by kernel_rfl)) (fun _ _ _ h => h) (Or.inr ⟨by rfl, rfl⟩) ?_ ?_
                  rotate_left
                  · simp only [Act.put, List.setIfInBounds_toArray, List.set_cons_zero, List.set_cons_succ, i64_w, i32_w]
                    rfl
                  refine pure_ (i := 14) (N := some 88) (v := undef) (a' := ?_) #[true, true, true, true, true, true, true, true, true, true, true, true, true, true, true, false, false] rfl rfl (any_of HT_.out (by kernel_rfl)) (fun _ _ _ h => h) (Or.inr ⟨by rfl, rfl⟩) ?_ ?_
                  rotate_left
                  · simp only [Act.put, List.setIfInBounds_toArray, List.set_cons_zero, List.set_cons_succ, i64_w, i32_w]
                    rfl
                  refine pure_ (i := 15) (N := some 89) (v := undef) (a' := ?_) #[true, true, true, true, true, true, true, true, true, true, true, true, true, true, true, true, false] rfl rfl (any_of HT_.out (by kernel_rfl)) (fun _ _ _ h => h) (Or.inr ⟨by rfl, rfl⟩) ?_ ?_
                  rotate_left
                  · simp only [Act.put, List.setIfInBounds_toArray, List.set_cons_zero, List.set_cons_succ, i64_w, i32_w]
                    rfl
                  refine pure_ (i := 16) (N := some 90) (v := ?_) (a' := ?_) #[true, true, true, true, true, true, true, true, true, true, true, true, true, true, true, true, true] rfl rfl (any_of HT_.out (by kernel_rfl)) (fun _ _ _ h => h) (Or.inl ⟨by rfl, ?_⟩) ?_ ?_
                  rotate_left
                  · intro w'
                    go_simp
                    with_reducible rfl
                  rotate_left
                  · simp only [Act.put, List.setIfInBounds_toArray, List.set_cons_zero, List.set_cons_succ, i64_w, i32_w]
                    rfl
                  refine done_ (done_of HT_.out (by kernel_rfl)) ?_
                  go_wp2
                  go_roundg gk
                  case measure => omega
                  case rel => exact ⟨i + 1, bst, by first | rfl | simp, by first | rfl | (simp; done) | (simp; unfold wrap64; have := HL.out; have := HN.out; omega), ⟨by have := HI.out; omega⟩, ⟨HBA.out.skip HLU.out⟩, H5, HB5⟩
                | false =>
                  rcases HBA.out with ⟨hb, _⟩ | ⟨b', hb, hb2, _⟩
                  · subst hb
                    refine start_ (n := 17) (S := fun w' => True) (ds := []) #[false, false, false, false, false, false, false, false, false, false, false, false, false, false, false, false, false] (by kernel_rfl) rfl rfl trivial (fun hHeld => ?_)
                    refine with_tabW kinds.tab21 kinds.bits21 (fun HT_ HW_ => ?_)
                    generalize wr.drew = w4 at HB5 H5 hHeld ⊢
                    refine pure_ (i := 0) (N := some 74) (v := ?_) (a' := ?_) #[true, false, false, false, false, false, false, false, false, false, false, false, false, false, false, false, false] rfl rfl (any_of HT_.out (by kernel_rfl)) (fun _ _ _ h => h) (Or.inl ⟨by rfl, ?_⟩) ?_ ?_
                    rotate_left
                    · intro w'
                      go_simp
                      with_reducible rfl
                    rotate_left
                    · simp only [Act.put, List.setIfInBounds_toArray, List.set_cons_zero, List.set_cons_succ, i64_w, i32_w]
                      rfl
                    refine pure_ (i := 1) (N := some 75) (v := ?_) (a' := ?_) #[true, true, false, false, false, false, false, false, false, false, false, false, false, false, false, false, false] rfl rfl (any_of HT_.out (by kernel_rfl)) (fun _ _ _ h => h) (Or.inl ⟨by rfl, ?_⟩) ?_ ?_
                    rotate_left
                    · intro w'
                      go_simp
                      with_reducible rfl
                    rotate_left
                    · simp only [Act.put, List.setIfInBounds_toArray, List.set_cons_zero, List.set_cons_succ, i64_w, i32_w]
                      rfl
                    refine pure_ (i := 2) (N := some 76) (v := ?_) (a' := ?_) #[true, true, true, false, false, false, false, false, false, false, false, false, false, false, false, false, false] rfl rfl (any_of HT_.out (by kernel_rfl)) (fun _ _ _ h => h) (Or.inl ⟨by rfl, ?_⟩) ?_ ?_
                    rotate_left
                    · intro w'
                      go_simp
                      with_reducible rfl
                    rotate_left
                    · simp only [Act.put, List.setIfInBounds_toArray, List.set_cons_zero, List.set_cons_succ, i64_w, i32_w]
                      rfl
                    refine pure_ (i := 3) (N := some 77) (v := ?_) (a' := ?_) #[true, true, true, true, false, false, false, false, false, false, false, false, false, false, false, false, false] rfl rfl (any_of HT_.out (by kernel_rfl)) (fun _ _ _ h => h) (Or.inl ⟨by rfl, ?_⟩) ?_ ?_
                    rotate_left
                    · intro w'
                      go_simp
                      with_reducible rfl
                    rotate_left
                    · simp only [Act.put, List.setIfInBounds_toArray, List.set_cons_zero, List.set_cons_succ, i64_w, i32_w]
                      rfl
                    refine pure_ (i := 4) (N := some 78) (v := ?_) (a' := ?_) #[true, true, true, true, true, false, false, false, false, false, false, false, false, false, false, false, false] rfl rfl (any_of HT_.out (by kernel_rfl)) (fun _ _ _ h => h) (Or.inl ⟨by rfl, ?_⟩) ?_ ?_
                    rotate_left
                    · intro w'
                      go_simp
                      with_reducible rfl
                    rotate_left
                    · simp only [Act.put, List.setIfInBounds_toArray, List.set_cons_zero, List.set_cons_succ, i64_w, i32_w]
                      rfl
                    refine pure_ (i := 5) (N := some 79) (v := ?_) (a' := ?_) #[true, true, true, true, true, true, false, false, false, false, false, false, false, false, false, false, false] rfl rfl (any_of HT_.out (by kernel_rfl)) (fun _ _ _ h => h) (Or.inl ⟨by rfl, ?_⟩) ?_ ?_
                    rotate_left
                    · intro w'
                      go_simp
                      with_reducible rfl
                    rotate_left
                    · simp only [Act.put, List.setIfInBounds_toArray, List.set_cons_zero, List.set_cons_succ, i64_w, i32_w]
                      rfl
                    refine pure_ (i := 6) (N := some 80) (v := undef) (a' := ?_) #[true, true, true, true, true, true, true, false, false, false, false, false, false, false, false, false, false] rfl rfl (any_of HT_.out (by kernel_rfl)) (fun _ _ _ h => h) (Or.inr ⟨by rfl, rfl⟩) ?_ ?_
                    rotate_left
                    · simp only [Act.put, List.setIfInBounds_toArray, List.set_cons_zero, List.set_cons_succ, i64_w, i32_w]
                      rfl
                    refine pure_ (i := 7) (N := some 81) (v := undef) (a' := ?_) #[true, true, true, true, true, true, true, true, false, false, false, false, false, false, false, false, false] rfl rfl (any_of HT_.out (by kernel_rfl)) (fun _ _ _ h => h) (Or.inr ⟨by rfl, rfl⟩) ?_ ?_
                    rotate_left
                    · simp only [Act.put, List.setIfInBounds_toArray, List.set_cons_zero, List.set_cons_succ, i64_w, i32_w]
                      rfl
                    refine pure_ (i := 8) (N := some 82) (v := undef) (a' := ?_) #[true, true, true, true, true, true, true, true, true, false, false, false, false, false, false, false, false] rfl rfl (any_of HT_.out (by kernel_rfl)) (fun _ _ _ h => h) (Or.inr ⟨by rfl, rfl⟩) ?_ ?_
                    rotate_left
                    · simp only [Act.put, List.setIfInBounds_toArray, List.set_cons_zero, List.set_cons_succ, i64_w, i32_w]
                      rfl
                    refine pure_ (i := 9) (N := some 83) (v := undef) (a' := ?_) #[true, true, true, true, true, true, true, true, true, true, false, false, false, false, false, false, false] rfl rfl (any_of HT_.out (by kernel_rfl)) (fun _ _ _ h => h) (Or.inr ⟨by rfl, rfl⟩) ?_ ?_
                    rotate_left
                    · simp only [Act.put, List.setIfInBounds_toArray, List.set_cons_zero, List.set_cons_succ, i64_w, i32_w]
                      rfl
                    refine pure_ (i := 10) (N := some 84) (v := undef) (a' := ?_) #[true, true, true, true, true, true, true, true, true, true, true, false, false, false, false, false, false] rfl rfl (any_of HT_.out (by kernel_rfl)) (fun _ _ _ h => h) (Or.inr ⟨by rfl, rfl⟩) ?_ ?_
                    rotate_left
                    · simp only [Act.put, List.setIfInBounds_toArray, List.set_cons_zero, List.set_cons_succ, i64_w, i32_w]
                      rfl
                    refine pure_ (i := 11) (N := some 85) (v := undef) (a' := ?_) #[true, true, true, true, true, true, true, true, true, true, true, true, false, false, false, false, false] rfl rfl (any_of HT_.out (by kernel_rfl)) (fun _ _ _ h => h) (Or.inr ⟨by rfl, rfl⟩) ?_ ?_
                    rotate_left
                    · simp only [Act.put, List.setIfInBounds_toArray, List.set_cons_zero, List.set_cons_succ, i64_w, i32_w]
                      rfl
                    refine pure_ (i := 12) (N := some 86) (v := undef) (a' := ?_) #[true, true, true, true, true, true, true, true, true, true, true, true, true, false, false, false, false] rfl rfl (any_of HT_.out (by kernel_rfl)) (fun _ _ _ h => h) (Or.inr ⟨by rfl, rfl⟩) ?_ ?_
                    rotate_left
                    · simp only [Act.put, List.setIfInBounds_toArray, List.set_cons_zero, List.set_cons_succ, i64_w, i32_w]
                      rfl
                    refine pure_ (i := 13) (N := some 87) (v := undef) (a' := ?_) #[true, true, true, true, true, true, true, true, true, true, true, true, true, true, false, false, false] rfl rfl (any_of HT_.out (by kernel_rfl)) (fun _ _ _ h => h) (Or.inr ⟨by rfl, rfl⟩) ?_ ?_
                    rotate_left
                    · simp only [Act.put, List.setIfInBounds_toArray, List.set_cons_zero, List.set_cons_succ, i64_w, i32_w]
                      rfl
                    refine pure_ (i := 14) (N := some 88) (v := undef) (a' := ?_) #[true, true, true, true, true, true, true, true, true, true, true, true, true, true, true, false, false] rfl rfl (any_of HT_.out (by kernel_rfl)) (fun _ _ _ h => h) (Or.inr ⟨by rfl, rfl⟩) ?_ ?_
                    rotate_left
                    · simp only [Act.put, List.setIfInBounds_toArray, List.set_cons_zero, List.set_cons_succ, i64_w, i32_w]
                      rfl
                    refine pure_ (i := 15) (N := some 89) (v := ?_) (a' := ?_) #[true, true, true, true, true, true, true, true, true, true, true, true, true, true, true, true, false] rfl rfl (any_of HT_.out (by kernel_rfl)) (fun _ _ _ h => h) (Or.inl ⟨by rfl, ?_⟩) ?_ ?_
                    rotate_left
                    · intro w'
                      go_simp
                      with_reducible rfl
                    rotate_left
                    · simp only [Act.put, List.setIfInBounds_toArray, List.set_cons_zero, List.set_cons_succ, i64_w, i32_w]
                      rfl
                    refine pure_ (i := 16) (N := some 90) (v := ?_) (a' := ?_) #[true, true, true, true, true, true, true, true, true, true, true, true, true, true, true, true, true] rfl rfl (any_of HT_.out (by kernel_rfl)) (fun _ _ _ h => h) (Or.inl ⟨by rfl, ?_⟩) ?_ ?_
                    rotate_left
                    · intro w'
                      go_simp
                      with_reducible rfl
                    rotate_left
                    · simp only [Act.put, List.setIfInBounds_toArray, List.set_cons_zero, List.set_cons_succ, i64_w, i32_w]
                      rfl
                    refine done_ (done_of HT_.out (by kernel_rfl)) ?_
                    go_wp2
                    go_roundg gk
                    case measure => omega
                    case rel => exact ⟨i + 1, i, by first | rfl | simp, by first | rfl | (simp; done) | (simp; unfold wrap64; have := HL.out; have := HN.out; omega), ⟨by have := HI.out; omega⟩, ⟨HBA.out.first HLU.out⟩, H5, HB5⟩
                  · subst hb
                    have hil' : (i : Int) < ds.length := by have := HN.out; omega
                    have hbl' : (b' : Int) < ds.length := by have := HN.out; have := HI.out; omega
                    obtain ⟨ad1, e1, hx1⟩ := Kd.at_int HR1.out i (by omega) hil'
                    obtain ⟨ad2, e2, hx2⟩ := Kd.at_int HR1.out b' (by omega) hbl'
                    rw [Int.toNat_natCast] at hx1 hx2
                    rw [e1] at e2
                    cases e2
                    cases e1
                    have hx1 := pw_cell_below HB5.out hx1
                    have hx2 := pw_cell_below HB5.out hx2
                    have hb0 : decide ((b' : Int) < 0) = false := decide_eq_false (by omega)
                    have HX := Aside0.mk (And.intro hx1 hx2)
                    clear hx1 hx2 hb2
                    obtain ⟨d1, hd1⟩ : ∃ d1, d1 = rd ds i := ⟨_, rfl⟩
                    obtain ⟨d2, hd2⟩ : ∃ d2, d2 = rd ds b' := ⟨_, rfl⟩
                    rw [← hd1, ← hd2] at HX
                    have HD := Aside0.mk (And.intro hd1 hd2)
                    clear hd1 hd2
                    refine start_ (n := 17) (S := fun w' => w'.cell? (ad1.add i) = some (.int .i64 d1) ∧ w'.cell? (ad1.add b') = some (.int .i64 d2)) (ds := []) #[false, false, false, false, false, false, false, false, false, false, false, false, false, false, false, false, false] (by kernel_rfl) rfl rfl ⟨HX.out.1, HX.out.2⟩ (fun hHeld => ?_)
                    refine with_tabW kinds.tab21 kinds.bits21 (fun HT_ HW_ => ?_)
                    generalize wr.drew = w4 at HB5 H5 HX hHeld ⊢
                    refine pure_ (i := 0) (N := some 74) (v := ?_) (a' := ?_) #[true, false, false, false, false, false, false, false, false, false, false, false, false, false, false, false, false] rfl rfl (any_of HT_.out (by kernel_rfl)) (fun _ _ _ h => h) (Or.inl ⟨by rfl, ?_⟩) ?_ ?_
                    rotate_left
                    · intro w'
                      go_simp
                      with_reducible rfl
                    rotate_left
                    · simp only [Act.put, List.setIfInBounds_toArray, List.set_cons_zero, List.set_cons_succ, i64_w, i32_w]
                      rfl
                    refine pure_ (i := 1) (N := some 75) (v := ?_) (a' := ?_) #[true, true, false, false, false, false, false, false, false, false, false, false, false, false, false, false, false] rfl rfl (any_of HT_.out (by kernel_rfl)) (fun _ _ _ h => h) (Or.inl ⟨by rfl, ?_⟩) ?_ ?_
                    rotate_left
                    · intro w'
                      go_simp
                      with_reducible rfl
                    rotate_left
                    · simp only [Act.put, List.setIfInBounds_toArray, List.set_cons_zero, List.set_cons_succ, i64_w, i32_w]
                      rfl
                    refine pure_ (i := 2) (N := some 76) (v := ?_) (a' := ?_) #[true, true, true, false, false, false, false, false, false, false, false, false, false, false, false, false, false] rfl rfl (any_of HT_.out (by kernel_rfl)) (fun _ _ _ h => h) (Or.inl ⟨by rfl, ?_⟩) ?_ ?_
                    rotate_left
                    · intro w'
                      go_simp
                      with_reducible rfl
                    rotate_left
                    · simp only [Act.put, List.setIfInBounds_toArray, List.set_cons_zero, List.set_cons_succ, i64_w, i32_w]
                      rfl
                    refine pure_ (i := 3) (N := some 77) (v := ?_) (a' := ?_) #[true, true, true, true, false, false, false, false, false, false, false, false, false, false, false, false, false] rfl rfl (any_of HT_.out (by kernel_rfl)) (fun _ _ _ h => h) (Or.inl ⟨by rfl, ?_⟩) ?_ ?_
                    rotate_left
                    · intro w'
                      go_simp
                      with_reducible rfl
                    rotate_left
                    · simp only [Act.put, List.setIfInBounds_toArray, List.set_cons_zero, List.set_cons_succ, i64_w, i32_w]
                      rfl
                    refine pure_ (i := 4) (N := some 78) (v := ?_) (a' := ?_) #[true, true, true, true, true, false, false, false, false, false, false, false, false, false, false, false, false] rfl rfl (any_of HT_.out (by kernel_rfl)) (fun _ _ _ h => h) (Or.inl ⟨by rfl, ?_⟩) ?_ ?_
                    rotate_left
                    · intro w'
                      go_simp
                      with_reducible rfl
                    rotate_left
                    · simp only [Act.put, List.setIfInBounds_toArray, List.set_cons_zero, List.set_cons_succ, i64_w, i32_w]
                      rfl
                    refine pure_ (i := 5) (N := some 79) (v := ?_) (a' := ?_) #[true, true, true, true, true, true, false, false, false, false, false, false, false, false, false, false, false] rfl rfl (any_of HT_.out (by kernel_rfl)) (fun _ _ _ h => h) (Or.inl ⟨by rfl, ?_⟩) ?_ ?_
                    rotate_left
                    · intro w'
                      go_simp
                      with_reducible rfl
                    rotate_left
                    · simp only [Act.put, List.setIfInBounds_toArray, List.set_cons_zero, List.set_cons_succ, i64_w, i32_w]
                      rfl
                    refine pure_ (i := 6) (N := some 80) (v := ?_) (a' := ?_) #[true, true, true, true, true, true, true, false, false, false, false, false, false, false, false, false, false] rfl rfl (any_of HT_.out (by kernel_rfl)) (fun _ _ _ h => h) (Or.inl ⟨by rfl, ?_⟩) ?_ ?_
                    rotate_left
                    · intro w'
                      go_simp
                      with_reducible rfl
                    rotate_left
                    · simp only [Act.put, List.setIfInBounds_toArray, List.set_cons_zero, List.set_cons_succ, i64_w, i32_w]
                      rfl
                    refine pure_ (i := 7) (N := some 81) (v := ?_) (a' := ?_) #[true, true, true, true, true, true, true, true, false, false, false, false, false, false, false, false, false] rfl rfl (any_of HT_.out (by kernel_rfl)) (fun _ _ _ h => h) (Or.inl ⟨by rfl, ?_⟩) ?_ ?_
                    rotate_left
                    · intro w'
                      go_simp
                      with_reducible rfl
                    rotate_left
                    · simp only [Act.put, List.setIfInBounds_toArray, List.set_cons_zero, List.set_cons_succ, i64_w, i32_w]
                      rfl
                    refine pure_ (i := 8) (N := some 82) (v := ?_) (a' := ?_) #[true, true, true, true, true, true, true, true, true, false, false, false, false, false, false, false, false] rfl rfl (any_of HT_.out (by kernel_rfl)) (fun _ _ _ h => h) (Or.inl ⟨by rfl, ?_⟩) ?_ ?_
                    rotate_left
                    · intro w'
                      go_simp
                      with_reducible rfl
                    rotate_left
                    · simp only [Act.put, List.setIfInBounds_toArray, List.set_cons_zero, List.set_cons_succ, i64_w, i32_w]
                      rfl
                    refine pure_ (i := 10) (N := some 84) (v := ?_) (a' := ?_) #[true, true, true, true, true, true, true, true, true, false, true, false, false, false, false, false, false] rfl rfl (any_of HT_.out (by kernel_rfl)) (fun _ _ _ h => h) (Or.inl ⟨by rfl, ?_⟩) ?_ ?_
                    rotate_left
                    · intro w'
                      go_simp
                      with_reducible rfl
                    rotate_left
                    · simp only [Act.put, List.setIfInBounds_toArray, List.set_cons_zero, List.set_cons_succ, i64_w, i32_w]
                      rfl
                    refine pure_ (i := 11) (N := some 85) (v := ?_) (a' := ?_) #[true, true, true, true, true, true, true, true, true, false, true, true, false, false, false, false, false] rfl rfl (any_of HT_.out (by kernel_rfl)) (fun _ _ _ h => h) (Or.inl ⟨by rfl, ?_⟩) ?_ ?_
                    rotate_left
                    · intro w'
                      go_simp
                      with_reducible rfl
                    rotate_left
                    · simp only [Act.put, List.setIfInBounds_toArray, List.set_cons_zero, List.set_cons_succ, i64_w, i32_w]
                      rfl
                    refine pure_ (i := 12) (N := some 86) (v := ?_) (a' := ?_) #[true, true, true, true, true, true, true, true, true, false, true, true, true, false, false, false, false] rfl rfl (any_of HT_.out (by kernel_rfl)) (fun _ _ _ h => h) (Or.inl ⟨by rfl, ?_⟩) ?_ ?_
                    rotate_left
                    · intro w'
                      go_simp
                      with_reducible rfl
                    rotate_left
                    · simp only [Act.put, List.setIfInBounds_toArray, List.set_cons_zero, List.set_cons_succ, i64_w, i32_w]
                      rfl
                    refine take_ (i := 9) (N := some 83) (v := ?_) (a' := ?_) #[true, true, true, true, true, true, true, true, true, true, true, true, true, false, false, false, false] rfl rfl (take_ofW HT_.out HW_.out (by kernel_rfl)) (fun _ _ _ h => h) (Or.inl ⟨by rfl, ?_⟩) hHeld ?_ ?_
                    rotate_left
                    · rintro w' ⟨s0, s1⟩
                      go_simp
                      with_reducible rfl
                    rotate_left
                    · simp only [Act.put, List.setIfInBounds_toArray, List.set_cons_zero, List.set_cons_succ, i64_w, i32_w]
                      rfl
                    refine take_ (i := 13) (N := some 87) (v := ?_) (a' := ?_) #[true, true, true, true, true, true, true, true, true, true, true, true, true, true, false, false, false] rfl rfl (take_ofW HT_.out HW_.out (by kernel_rfl)) (fun _ _ _ h => h) (Or.inl ⟨by rfl, ?_⟩) hHeld ?_ ?_
                    rotate_left
                    · rintro w' ⟨s0, s1⟩
                      go_simp
                      with_reducible rfl
                    rotate_left
                    · simp only [Act.put, List.setIfInBounds_toArray, List.set_cons_zero, List.set_cons_succ, i64_w, i32_w]
                      rfl
                    refine pure_ (i := 14) (N := some 88) (v := ?_) (a' := ?_) #[true, true, true, true, true, true, true, true, true, true, true, true, true, true, true, false, false] rfl rfl (any_of HT_.out (by kernel_rfl)) (fun _ _ _ h => h) (Or.inl ⟨by rfl, ?_⟩) ?_ ?_
                    rotate_left
                    · intro w'
                      go_simp
                      with_reducible rfl
                    rotate_left
                    · simp only [Act.put, List.setIfInBounds_toArray, List.set_cons_zero, List.set_cons_succ, i64_w, i32_w]
                      rfl
                    refine pure_ (i := 15) (N := some 89) (v := ?_) (a' := ?_) #[true, true, true, true, true, true, true, true, true, true, true, true, true, true, true, true, false] rfl rfl (any_of HT_.out (by kernel_rfl)) (fun _ _ _ h => h) (Or.inl ⟨by rfl, ?_⟩) ?_ ?_
                    rotate_left
                    · intro w'
                      go_simp
                      with_reducible rfl
                    rotate_left
                    · simp only [Act.put, List.setIfInBounds_toArray, List.set_cons_zero, List.set_cons_succ, i64_w, i32_w]
                      rfl
                    refine pure_ (i := 16) (N := some 90) (v := ?_) (a' := ?_) #[true, true, true, true, true, true, true, true, true, true, true, true, true, true, true, true, true] rfl rfl (any_of HT_.out (by kernel_rfl)) (fun _ _ _ h => h) (Or.inl ⟨by rfl, ?_⟩) ?_ ?_
                    rotate_left
                    · intro w'
                      go_simp
                      with_reducible rfl
                    rotate_left
                    · simp only [Act.put, List.setIfInBounds_toArray, List.set_cons_zero, List.set_cons_succ, i64_w, i32_w]
                      rfl
                    refine done_ (done_of HT_.out (by kernel_rfl)) ?_
                    by_cases hd : d1 < d2
                    · have hdd : decide (d1 < d2) = true := decide_eq_true hd
                      have HDD := Aside0.mk hd
                      clear hd
                      (first | rw [hdd] | skip)
                      go_wp2
                      go_roundg gk
                      case measure => omega
                      case rel => exact ⟨i + 1, i, by first | rfl | simp, by first | rfl | (simp; done) | (simp; unfold wrap64; have := HL.out; have := HN.out; omega), ⟨by have := HI.out; omega⟩, ⟨HBA.out.better HLU.out (by rw [← HD.out.1, ← HD.out.2]; have := HDD.out; omega)⟩, H5, HB5⟩
                    · have hdd : decide (d1 < d2) = false := decide_eq_false hd
                      have HDD := Aside0.mk hd
                      clear hd
                      (first | rw [hdd] | skip)
                      go_wp2
                      go_roundg gk
                      case measure => omega
                      case rel => exact ⟨i + 1, b', by first | rfl | simp, by first | rfl | (simp; done) | (simp; unfold wrap64; have := HL.out; have := HN.out; omega), ⟨by have := HI.out; omega⟩, ⟨HBA.out.keep HLU.out (by rw [← HD.out.1, ← HD.out.2]; have := HDD.out; omega)⟩, H5, HB5⟩
              | succ gk2 =>
                have hkl : (k : Int) < n := by have := HKK.out; omega
                have hk0 : (k : Int) < l.length := by have := HN.out; omega
                have hi0 : (i : Int) < l.length := by have := HN.out; omega
                obtain ⟨ad1, e1, hx1, hy1⟩ := at_pt HR.out k (by omega)
                obtain ⟨ad2, e2, hx2, hy2⟩ := at_pt HR.out i (by omega)
                rw [e1] at e2
                cases e2
                cases e1
                have hb5 : Below w.heap.size w wr.drew := below_drew HB.out
                have HX := Aside0.mk (And.intro (pw_cell_below hb5 hx1) (And.intro (pw_cell_below hb5 hy1) (And.intro (pw_cell_below hb5 hx2) (pw_cell_below hb5 hy2))))
                obtain ⟨x, hx⟩ : ∃ x, x = l.getD k default := ⟨_, rfl⟩
                obtain ⟨y, hy⟩ : ∃ y, y = l.getD i default := ⟨_, rfl⟩
                rw [← hx, ← hy] at HX
                have HXY := Aside0.mk (And.intro hx hy)
                have hwk : wrap64 ((k : Int) + 1) = (k : Int) + 1 := by unfold wrap64; have := HN.out; have := HL.out; omega
                clear hx1 hy1 hx2 hy2 hb5 hx hy
                go_wp2_with fail
                have H5 : Aside0 (HAt wr.drew w.heap.size g (.func (.func 24) #[] #[]) A cap b hl C) := ⟨H.out.below (below_drew1 (Below.refl _ _))⟩
                have HB5 : Aside0 (Below w.heap.size w wr.drew) := ⟨below_drew HB.out⟩
                clear H HB
                cases gb with
                | true =>
                  refine start_ (n := 13) (S := fun w' => True) (ds := []) #[false, false, false, false, false, false, false, false, false, false, false, false, false] (by kernel_rfl) rfl rfl trivial (fun hHeld => ?_)
                  refine with_tabW kinds.tab20 kinds.bits20 (fun HT_ HW_ => ?_)
                  generalize wr.drew = w4 at HB5 H5 hHeld ⊢
                  refine pure_ (i := 0) (N := some 62) (v := ?_) (a' := ?_) #[true, false, false, false, false, false, false, false, false, false, false, false, false] rfl rfl (any_of HT_.out (by kernel_rfl)) (fun _ _ _ h => h) (Or.inl ⟨by rfl, ?_⟩) ?_ ?_
                  rotate_left
                  · intro w'
                    go_simp
                    with_reducible rfl
                  rotate_left
                  · simp only [Act.put, List.setIfInBounds_toArray, List.set_cons_zero, List.set_cons_succ, i64_w, i32_w]
                    rfl
                  refine pure_ (i := 1) (N := some 63) (v := ?_) (a' := ?_) #[true, true, false, false, false, false, false, false, false, false, false, false, false] rfl rfl (any_of HT_.out (by kernel_rfl)) (fun _ _ _ h => h) (Or.inl ⟨by rfl, ?_⟩) ?_ ?_
                  rotate_left
                  · intro w'
                    go_simp
                    with_reducible rfl
                  rotate_left
                  · simp only [Act.put, List.setIfInBounds_toArray, List.set_cons_zero, List.set_cons_succ, i64_w, i32_w]
                    rfl
                  refine pure_ (i := 2) (N := some 64) (v := undef) (a' := ?_) #[true, true, true, false, false, false, false, false, false, false, false, false, false] rfl rfl (any_of HT_.out (by kernel_rfl)) (fun _ _ _ h => h) (Or.inr ⟨by rfl, rfl⟩) ?_ ?_
                  rotate_left
                  · simp only [Act.put, List.setIfInBounds_toArray, List.set_cons_zero, List.set_cons_succ, i64_w, i32_w]
                    rfl
                  refine pure_ (i := 3) (N := some 65) (v := undef) (a' := ?_) #[true, true, true, true, false, false, false, false, false, false, false, false, false] rfl rfl (any_of HT_.out (by kernel_rfl)) (fun _ _ _ h => h) (Or.inr ⟨by rfl, rfl⟩) ?_ ?_
                  rotate_left
                  · simp only [Act.put, List.setIfInBounds_toArray, List.set_cons_zero, List.set_cons_succ, i64_w, i32_w]
                    rfl
                  refine pure_ (i := 4) (N := some 66) (v := undef) (a' := ?_) #[true, true, true, true, true, false, false, false, false, false, false, false, false] rfl rfl (any_of HT_.out (by kernel_rfl)) (fun _ _ _ h => h) (Or.inr ⟨by rfl, rfl⟩) ?_ ?_
                  rotate_left
                  · simp only [Act.put, List.setIfInBounds_toArray, List.set_cons_zero, List.set_cons_succ, i64_w, i32_w]
                    rfl
                  refine pure_ (i := 5) (N := some 67) (v := undef) (a' := ?_) #[true, true, true, true, true, true, false, false, false, false, false, false, false] rfl rfl (any_of HT_.out (by kernel_rfl)) (fun _ _ _ h => h) (Or.inr ⟨by rfl, rfl⟩) ?_ ?_
                  rotate_left
                  · simp only [Act.put, List.setIfInBounds_toArray, List.set_cons_zero, List.set_cons_succ, i64_w, i32_w]
                    rfl
                  refine pure_ (i := 6) (N := some 68) (v := undef) (a' := ?_) #[true, true, true, true, true, true, true, false, false, false, false, false, false] rfl rfl (any_of HT_.out (by kernel_rfl)) (fun _ _ _ h => h) (Or.inr ⟨by rfl, rfl⟩) ?_ ?_
                  rotate_left
                  · simp only [Act.put, List.setIfInBounds_toArray, List.set_cons_zero, List.set_cons_succ, i64_w, i32_w]
                    rfl
                  refine pure_ (i := 7) (N := some 69) (v := undef) (a' := ?_) #[true, true, true, true, true, true, true, true, false, false, false, false, false] rfl rfl (any_of HT_.out (by kernel_rfl)) (fun _ _ _ h => h) (Or.inr ⟨by rfl, rfl⟩) ?_ ?_
                  rotate_left
                  · simp only [Act.put, List.setIfInBounds_toArray, List.set_cons_zero, List.set_cons_succ, i64_w, i32_w]
                    rfl
                  refine pure_ (i := 8) (N := some 70) (v := undef) (a' := ?_) #[true, true, true, true, true, true, true, true, true, false, false, false, false] rfl rfl (any_of HT_.out (by kernel_rfl)) (fun _ _ _ h => h) (Or.inr ⟨by rfl, rfl⟩) ?_ ?_
                  rotate_left
                  · simp only [Act.put, List.setIfInBounds_toArray, List.set_cons_zero, List.set_cons_succ, i64_w, i32_w]
                    rfl
                  refine pure_ (i := 9) (N := some 71) (v := undef) (a' := ?_) #[true, true, true, true, true, true, true, true, true, true, false, false, false] rfl rfl (any_of HT_.out (by kernel_rfl)) (fun _ _ _ h => h) (Or.inr ⟨by rfl, rfl⟩) ?_ ?_
                  rotate_left
                  · simp only [Act.put, List.setIfInBounds_toArray, List.set_cons_zero, List.set_cons_succ, i64_w, i32_w]
                    rfl
                  refine pure_ (i := 10) (N := some 72) (v := undef) (a' := ?_) #[true, true, true, true, true, true, true, true, true, true, true, false, false] rfl rfl (any_of HT_.out (by kernel_rfl)) (fun _ _ _ h => h) (Or.inr ⟨by rfl, rfl⟩) ?_ ?_
                  rotate_left
                  · simp only [Act.put, List.setIfInBounds_toArray, List.set_cons_zero, List.set_cons_succ, i64_w, i32_w]
                    rfl
                  refine pure_ (i := 11) (N := some 73) (v := ?_) (a' := ?_) #[true, true, true, true, true, true, true, true, true, true, true, true, false] rfl rfl (any_of HT_.out (by kernel_rfl)) (fun _ _ _ h => h) (Or.inl ⟨by rfl, ?_⟩) ?_ ?_
                  rotate_left
                  · intro w'
                    go_simp
                    with_reducible rfl
                  rotate_left
                  · simp only [Act.put, List.setIfInBounds_toArray, List.set_cons_zero, List.set_cons_succ, i64_w, i32_w]
                    rfl
                  refine pure_ (i := 12) (N := some 10) (v := ?_) (a' := ?_) #[true, true, true, true, true, true, true, true, true, true, true, true, true] rfl rfl (any_of HT_.out (by kernel_rfl)) (fun _ _ _ h => h) (Or.inl ⟨by rfl, ?_⟩) ?_ ?_
                  rotate_left
                  · intro w'
                    go_simp
                    with_reducible rfl
                  rotate_left
                  · simp only [Act.put, List.setIfInBounds_toArray, List.set_cons_zero, List.set_cons_succ, i64_w, i32_w]
                    rfl
                  refine done_ (done_of HT_.out (by kernel_rfl)) ?_
                  go_wp2
                  go_roundg gk2
                  case measure => omega
                  case rel => exact ⟨k + 1, true, rfl, by first | rfl | (simp; done) | (rw [hwk]; rfl), ⟨by have := HKK.out; omega, by have := HKK.out; omega⟩, ⟨⟨fun _ => by obtain ⟨k', h1, h2, h3⟩ := HG.out.1 (by first | rfl | trivial); exact ⟨k', h1, by omega, h3⟩, fun _ => rfl⟩⟩, H5, HB5⟩
                | false =>
                  refine start_ (n := 13) (S := fun w' => w'.cell? (ad1.add (k * 2)) = some (.int .i16 x.1) ∧ w'.cell? ⟨(ad1.add (k * 2)).block, (ad1.add (k * 2)).off + 1, none⟩ = some (.int .i16 x.2) ∧ w'.cell? (ad1.add (i * 2)) = some (.int .i16 y.1) ∧ w'.cell? ⟨(ad1.add (i * 2)).block, (ad1.add (i * 2)).off + 1, none⟩ = some (.int .i16 y.2)) (ds := []) #[false, false, false, false, false, false, false, false, false, false, false, false, false] (by kernel_rfl) rfl rfl ⟨HX.out.1, HX.out.2.1, HX.out.2.2.1, HX.out.2.2.2⟩ (fun hHeld => ?_)
                  refine with_tabW kinds.tab20 kinds.bits20 (fun HT_ HW_ => ?_)
                  generalize wr.drew = w4 at HB5 H5 HX hHeld ⊢
                  refine pure_ (i := 0) (N := some 62) (v := ?_) (a' := ?_) #[true, false, false, false, false, false, false, false, false, false, false, false, false] rfl rfl (any_of HT_.out (by kernel_rfl)) (fun _ _ _ h => h) (Or.inl ⟨by rfl, ?_⟩) ?_ ?_
                  rotate_left
                  · intro w'
                    go_simp
                    with_reducible rfl
                  rotate_left
                  · simp only [Act.put, List.setIfInBounds_toArray, List.set_cons_zero, List.set_cons_succ, i64_w, i32_w]
                    rfl
                  refine pure_ (i := 1) (N := some 63) (v := ?_) (a' := ?_) #[true, true, false, false, false, false, false, false, false, false, false, false, false] rfl rfl (any_of HT_.out (by kernel_rfl)) (fun _ _ _ h => h) (Or.inl ⟨by rfl, ?_⟩) ?_ ?_
                  rotate_left
                  · intro w'
                    go_simp
                    with_reducible rfl
                  rotate_left
                  · simp only [Act.put, List.setIfInBounds_toArray, List.set_cons_zero, List.set_cons_succ, i64_w, i32_w]
                    rfl
                  refine pure_ (i := 2) (N := some 64) (v := ?_) (a' := ?_) #[true, true, true, false, false, false, false, false, false, false, false, false, false] rfl rfl (any_of HT_.out (by kernel_rfl)) (fun _ _ _ h => h) (Or.inl ⟨by rfl, ?_⟩) ?_ ?_
                  rotate_left
                  · intro w'
                    go_simp
                    with_reducible rfl
                  rotate_left
                  · simp only [Act.put, List.setIfInBounds_toArray, List.set_cons_zero, List.set_cons_succ, i64_w, i32_w]
                    rfl
                  refine pure_ (i := 3) (N := some 65) (v := ?_) (a' := ?_) #[true, true, true, true, false, false, false, false, false, false, false, false, false] rfl rfl (any_of HT_.out (by kernel_rfl)) (fun _ _ _ h => h) (Or.inl ⟨by rfl, ?_⟩) ?_ ?_
                  rotate_left
                  · intro w'
                    go_simp
                    with_reducible rfl
                  rotate_left
                  · simp only [Act.put, List.setIfInBounds_toArray, List.set_cons_zero, List.set_cons_succ, i64_w, i32_w]
                    rfl
                  refine pure_ (i := 4) (N := some 66) (v := ?_) (a' := ?_) #[true, true, true, true, true, false, false, false, false, false, false, false, false] rfl rfl (any_of HT_.out (by kernel_rfl)) (fun _ _ _ h => h) (Or.inl ⟨by rfl, ?_⟩) ?_ ?_
                  rotate_left
                  · intro w'
                    go_simp
                    with_reducible rfl
                  rotate_left
                  · simp only [Act.put, List.setIfInBounds_toArray, List.set_cons_zero, List.set_cons_succ, i64_w, i32_w]
                    rfl
                  refine pure_ (i := 6) (N := some 68) (v := ?_) (a' := ?_) #[true, true, true, true, true, false, true, false, false, false, false, false, false] rfl rfl (any_of HT_.out (by kernel_rfl)) (fun _ _ _ h => h) (Or.inl ⟨by rfl, ?_⟩) ?_ ?_
                  rotate_left
                  · intro w'
                    go_simp
                    with_reducible rfl
                  rotate_left
                  · simp only [Act.put, List.setIfInBounds_toArray, List.set_cons_zero, List.set_cons_succ, i64_w, i32_w]
                    rfl
                  refine pure_ (i := 7) (N := some 69) (v := ?_) (a' := ?_) #[true, true, true, true, true, false, true, true, false, false, false, false, false] rfl rfl (any_of HT_.out (by kernel_rfl)) (fun _ _ _ h => h) (Or.inl ⟨by rfl, ?_⟩) ?_ ?_
                  rotate_left
                  · intro w'
                    go_simp
                    with_reducible rfl
                  rotate_left
                  · simp only [Act.put, List.setIfInBounds_toArray, List.set_cons_zero, List.set_cons_succ, i64_w, i32_w]
                    rfl
                  refine pure_ (i := 8) (N := some 70) (v := ?_) (a' := ?_) #[true, true, true, true, true, false, true, true, true, false, false, false, false] rfl rfl (any_of HT_.out (by kernel_rfl)) (fun _ _ _ h => h) (Or.inl ⟨by rfl, ?_⟩) ?_ ?_
                  rotate_left
                  · intro w'
                    go_simp
                    with_reducible rfl
                  rotate_left
                  · simp only [Act.put, List.setIfInBounds_toArray, List.set_cons_zero, List.set_cons_succ, i64_w, i32_w]
                    rfl
                  refine take_ (i := 5) (N := some 67) (v := ?_) (a' := ?_) #[true, true, true, true, true, true, true, true, true, false, false, false, false] rfl rfl (take_ofW HT_.out HW_.out (by kernel_rfl)) (fun _ _ _ h => h) (Or.inl ⟨by rfl, ?_⟩) hHeld ?_ ?_
                  rotate_left
                  · rintro w' ⟨s0, s1, s2, s3⟩
                    go_simp
                    with_reducible rfl
                  rotate_left
                  · simp only [Act.put, List.setIfInBounds_toArray, List.set_cons_zero, List.set_cons_succ, i64_w, i32_w]
                    rfl
                  refine take_ (i := 9) (N := some 71) (v := ?_) (a' := ?_) #[true, true, true, true, true, true, true, true, true, true, false, false, false] rfl rfl (take_ofW HT_.out HW_.out (by kernel_rfl)) (fun _ _ _ h => h) (Or.inl ⟨by rfl, ?_⟩) hHeld ?_ ?_
                  rotate_left
                  · rintro w' ⟨s0, s1, s2, s3⟩
                    go_simp
                    with_reducible rfl
                  rotate_left
                  · simp only [Act.put, List.setIfInBounds_toArray, List.set_cons_zero, List.set_cons_succ, i64_w, i32_w]
                    rfl
                  refine pure_ (i := 10) (N := some 72) (v := ?_) (a' := ?_) #[true, true, true, true, true, true, true, true, true, true, true, false, false] rfl rfl (any_of HT_.out (by kernel_rfl)) (fun _ _ _ h => h) (Or.inl ⟨by rfl, ?_⟩) ?_ ?_
                  rotate_left
                  · intro w'
                    go_simp
                    with_reducible rfl
                  rotate_left
                  · simp only [Act.put, List.setIfInBounds_toArray, List.set_cons_zero, List.set_cons_succ, i64_w, i32_w]
                    rfl
                  refine pure_ (i := 11) (N := some 73) (v := ?_) (a' := ?_) #[true, true, true, true, true, true, true, true, true, true, true, true, false] rfl rfl (any_of HT_.out (by kernel_rfl)) (fun _ _ _ h => h) (Or.inl ⟨by rfl, ?_⟩) ?_ ?_
                  rotate_left
                  · intro w'
                    go_simp
                    with_reducible rfl
                  rotate_left
                  · simp only [Act.put, List.setIfInBounds_toArray, List.set_cons_zero, List.set_cons_succ, i64_w, i32_w]
                    rfl
                  refine pure_ (i := 12) (N := some 10) (v := ?_) (a' := ?_) #[true, true, true, true, true, true, true, true, true, true, true, true, true] rfl rfl (any_of HT_.out (by kernel_rfl)) (fun _ _ _ h => h) (Or.inl ⟨by rfl, ?_⟩) ?_ ?_
                  rotate_left
                  · intro w'
                    go_simp
                    with_reducible rfl
                  rotate_left
                  · simp only [Act.put, List.setIfInBounds_toArray, List.set_cons_zero, List.set_cons_succ, i64_w, i32_w]
                    rfl
                  refine done_ (done_of HT_.out (by kernel_rfl)) ?_
                  go_wp2
                  go_roundg gk2
                  case measure => omega
                  case rel => exact ⟨k + 1, (x.1 == y.1 && x.2 == y.2), rfl, by first | rfl | (simp; done) | (rw [hwk]; rfl), ⟨by have := HKK.out; omega, by have := HKK.out; omega⟩, ⟨gone_step HG.out HXY.out.1 HXY.out.2 (by have := HKK.out; have := HI1.out; omega)⟩, H5, HB5⟩
      | succ gk =>
        have hil : (i : Int) < n := by have := HI.out; omega
        have hi0 : (i : Int) < l.length := by have := HN.out; omega
        have hi1 : (i : Int) < ds.length := by have := HN.out; omega
        obtain ⟨ad, e0, hx0, hx1⟩ := at_pt HR.out i (by omega)
        obtain ⟨ad1, e1, hx2⟩ := Kd.at_int HR1.out i (by omega) hi1
        rw [Int.toNat_natCast] at hx2
        have HX : Aside0 (∀ w', Below w.heap.size w w' → w'.cell? (ad.add (i * 2)) = some (.int .i16 (l.getD i default).1) ∧ w'.cell? ⟨(ad.add (i * 2)).block, (ad.add (i * 2)).off + 1, none⟩ = some (.int .i16 (l.getD i default).2) ∧ w'.cell? (ad1.add i) = some (.int .i64 (rd ds i))) := ⟨fun w' hb => ⟨pw_cell_below hb hx0, pw_cell_below hb hx1, pw_cell_below hb hx2⟩⟩
        cases e0
        cases e1
        clear hx0 hx1 hx2
        obtain ⟨x, hx⟩ : ∃ x, x = l.getD i default := ⟨_, rfl⟩
        obtain ⟨dv, hdv⟩ : ∃ dv, dv = rd ds i := ⟨_, rfl⟩
        rw [← hx, ← hdv] at HX
        have hxm : okK x := HK.out x (by rw [hx, List.getD_eq_getElem?_getD, List.getElem?_eq_getElem (show i < l.length by omega)]; exact List.getElem_mem _)
        have HXM := Aside0.mk hxm
        have HXE := Aside0.mk (And.intro hx hdv)
        have HWI : Aside0 (wrap64 ((i : Int) + 1) = (i : Int) + 1) := ⟨by unfold wrap64; have := HL.out; have := HN.out; omega⟩
        clear hxm hx hdv
        go_wp2_with fail
        have HB4 : Aside0 (Below w.heap.size w wr.drew) := ⟨below_drew HB.out⟩
        have H4 : Aside0 (HAt wr.drew w.heap.size g (.func (.func 24) #[] #[]) A cap b hl i) := ⟨H.out.below (below_drew1 (Below.refl _ _))⟩
        clear HB H
        refine start_ (n := 13) (S := fun w' => w'.cell? (ad.add (i * 2)) = some (.int .i16 x.1) ∧ w'.cell? ⟨(ad.add (i * 2)).block, (ad.add (i * 2)).off + 1, none⟩ = some (.int .i16 x.2) ∧ w'.cell? (ad1.add i) = some (.int .i64 dv)) (ds := [11]) #[false, false, false, false, false, false, false, false, false, false, false, false, false] (by kernel_rfl) rfl rfl ⟨(HX.out _ HB4.out).1, (HX.out _ HB4.out).2.1, (HX.out _ HB4.out).2.2⟩ (fun hHeld => ?_)
        refine with_tabW kinds.tab11 kinds.bits11 (fun HT_ HW_ => ?_)
        generalize wr.drew = w4 at HB4 H4 hHeld ⊢
        refine pure_ (i := 0) (N := some 37) (v := ?_) (a' := ?_) #[true, false, false, false, false, false, false, false, false, false, false, false, false] rfl rfl (any_of HT_.out (by kernel_rfl)) (fun _ _ _ h => h) (Or.inl ⟨by rfl, ?_⟩) ?_ ?_
        rotate_left
        · intro w'
          go_simp
          with_reducible rfl
        rotate_left
        · simp only [Act.put, List.setIfInBounds_toArray, List.set_cons_zero, List.set_cons_succ, i64_w, i32_w]
          rfl
        refine pure_ (i := 1) (N := some 38) (v := ?_) (a' := ?_) #[true, true, false, false, false, false, false, false, false, false, false, false, false] rfl rfl (any_of HT_.out (by kernel_rfl)) (fun _ _ _ h => h) (Or.inl ⟨by rfl, ?_⟩) ?_ ?_
        rotate_left
        · intro w'
          go_simp
          with_reducible rfl
        rotate_left
        · simp only [Act.put, List.setIfInBounds_toArray, List.set_cons_zero, List.set_cons_succ, i64_w, i32_w]
          rfl
        refine pure_ (i := 2) (N := some 39) (v := ?_) (a' := ?_) #[true, true, true, false, false, false, false, false, false, false, false, false, false] rfl rfl (any_of HT_.out (by kernel_rfl)) (fun _ _ _ h => h) (Or.inl ⟨by rfl, ?_⟩) ?_ ?_
        rotate_left
        · intro w'
          go_simp
          with_reducible rfl
        rotate_left
        · simp only [Act.put, List.setIfInBounds_toArray, List.set_cons_zero, List.set_cons_succ, i64_w, i32_w]
          rfl
        refine pure_ (i := 3) (N := some 40) (v := ?_) (a' := ?_) #[true, true, true, true, false, false, false, false, false, false, false, false, false] rfl rfl (any_of HT_.out (by kernel_rfl)) (fun _ _ _ h => h) (Or.inl ⟨by rfl, ?_⟩) ?_ ?_
        rotate_left
        · intro w'
          go_simp
          with_reducible rfl
        rotate_left
        · simp only [Act.put, List.setIfInBounds_toArray, List.set_cons_zero, List.set_cons_succ, i64_w, i32_w]
          rfl
        refine pure_ (i := 5) (N := some 42) (v := ?_) (a' := ?_) #[true, true, true, true, false, true, false, false, false, false, false, false, false] rfl rfl (any_of HT_.out (by kernel_rfl)) (fun _ _ _ h => h) (Or.inl ⟨by rfl, ?_⟩) ?_ ?_
        rotate_left
        · intro w'
          go_simp
          with_reducible rfl
        rotate_left
        · simp only [Act.put, List.setIfInBounds_toArray, List.set_cons_zero, List.set_cons_succ, i64_w, i32_w]
          rfl
        refine pure_ (i := 6) (N := some 43) (v := ?_) (a' := ?_) #[true, true, true, true, false, true, true, false, false, false, false, false, false] rfl rfl (any_of HT_.out (by kernel_rfl)) (fun _ _ _ h => h) (Or.inl ⟨by rfl, ?_⟩) ?_ ?_
        rotate_left
        · intro w'
          go_simp
          with_reducible rfl
        rotate_left
        · simp only [Act.put, List.setIfInBounds_toArray, List.set_cons_zero, List.set_cons_succ, i64_w, i32_w]
          rfl
        refine pure_ (i := 7) (N := some 44) (v := ?_) (a' := ?_) #[true, true, true, true, false, true, true, true, false, false, false, false, false] rfl rfl (any_of HT_.out (by kernel_rfl)) (fun _ _ _ h => h) (Or.inl ⟨by rfl, ?_⟩) ?_ ?_
        rotate_left
        · intro w'
          go_simp
          with_reducible rfl
        rotate_left
        · simp only [Act.put, List.setIfInBounds_toArray, List.set_cons_zero, List.set_cons_succ, i64_w, i32_w]
          rfl
        refine pure_ (i := 9) (N := some 46) (v := ?_) (a' := ?_) #[true, true, true, true, false, true, true, true, false, true, false, false, false] rfl rfl (any_of HT_.out (by kernel_rfl)) (fun _ _ _ h => h) (Or.inl ⟨by rfl, ?_⟩) ?_ ?_
        rotate_left
        · intro w'
          go_simp
          with_reducible rfl
        rotate_left
        · simp only [Act.put, List.setIfInBounds_toArray, List.set_cons_zero, List.set_cons_succ, i64_w, i32_w]
          rfl
        refine take_ (i := 4) (N := some 41) (v := ?_) (a' := ?_) #[true, true, true, true, true, true, true, true, false, true, false, false, false] rfl rfl (take_ofW HT_.out HW_.out (by kernel_rfl)) (fun _ _ _ h => h) (Or.inl ⟨by rfl, ?_⟩) hHeld ?_ ?_
        rotate_left
        · rintro w' ⟨s0, s1, s2⟩
          go_simp
          with_reducible rfl
        rotate_left
        · simp only [Act.put, List.setIfInBounds_toArray, List.set_cons_zero, List.set_cons_succ, i64_w, i32_w]
          rfl
        refine take_ (i := 8) (N := some 45) (v := ?_) (a' := ?_) #[true, true, true, true, true, true, true, true, true, true, false, false, false] rfl rfl (take_ofW HT_.out HW_.out (by kernel_rfl)) (fun _ _ _ h => h) (Or.inl ⟨by rfl, ?_⟩) hHeld ?_ ?_
        rotate_left
        · rintro w' ⟨s0, s1, s2⟩
          go_simp
          with_reducible rfl
        rotate_left
        · simp only [Act.put, List.setIfInBounds_toArray, List.set_cons_zero, List.set_cons_succ, i64_w, i32_w]
          rfl
        refine pure_ (i := 10) (N := some 47) (v := ?_) (a' := ?_) #[true, true, true, true, true, true, true, true, true, true, true, false, false] rfl rfl (any_of HT_.out (by kernel_rfl)) (fun _ _ _ h => h) (Or.inl ⟨by rfl, ?_⟩) ?_ ?_
        rotate_left
        · intro w'
          go_simp
          with_reducible rfl
        rotate_left
        · simp only [Act.put, List.setIfInBounds_toArray, List.set_cons_zero, List.set_cons_succ, i64_w, i32_w]
          rfl
        refine last_ (i := 11) (N := some 48) #[true, true, true, true, true, true, true, true, true, true, true, true, false] rfl rfl (one_of HT_.out (by kernel_rfl)) (by decide) (fun K hK => ?_)
        refine goes_ Try.func25 (by kernel_rfl) rfl #[.pointer (some ⟨g, 0, none⟩), .agg #[.int .i16 x.1, .int .i16 x.2], .agg #[.int .i64 dv, .int .i64 i]] (by rfl) rfl rfl (by simp only [List.map_toArray, List.map_cons, List.map_nil]; rfl) ?_
        with_reducible refine (put_calls w.heap.size g 24 soon less_soon A cap b hl i x (dv, (i : Int)) w4 H4.out HXM.out (by have := HM.out.1.perm.length_eq; have := came_le (plL l ds n) i; have := HL.out; have := HN.out; omega) (by have := HL.out; have := HN.out; have := HI.out; omega) HB4.out.size).mono ?_
        rintro e w5 ⟨rfl, A5, cap5, h, hc, _⟩
        refine ⟨_, rfl, ?_⟩
        have HB5 := Aside0.mk (hc.below HB4.out.size H4.out.fp_ge |> below_chain HB4.out)
        have H5 := Aside0.mk h
        clear h hc HB4 H4
        refine hK.out _ _ ?_
        clear hK K
        refine norm_ (a' := ?_) ?_ ?_
        rotate_left
        · show Act.put _ (some 48) _ = _
          simp only [Act.put, List.setIfInBounds_toArray, List.set_cons_zero, List.set_cons_succ, i64_w, i32_w]
          rfl
        refine pure_ (i := 12) (N := some 49) (v := ?_) (a' := ?_) #[true, true, true, true, true, true, true, true, true, true, true, true, true] rfl rfl (any_of HT_.out (by kernel_rfl)) (fun _ _ _ h => h) (Or.inl ⟨by rfl, ?_⟩) ?_ ?_
        rotate_left
        · intro w'
          go_simp
          with_reducible rfl
        rotate_left
        · simp only [Act.put, List.setIfInBounds_toArray, List.set_cons_zero, List.set_cons_succ, i64_w, i32_w]
          rfl
        refine done_ (done_of HT_.out (by kernel_rfl)) ?_
        have HM5 : Aside0 (RelM (putL soon hl ((i : Int) + 1) x (dv, (i : Int))) ((i : Int) + 1) (cameL (plL l ds n) (i + 1)) ∧ HeapOK soon (putL soon hl ((i : Int) + 1) x (dv, (i : Int)))) := ⟨by rw [cameL_succ, plL_get l ds (show i < n by omega), ← HXE.out.1, ← HXE.out.2]; exact HM.out.1.put x (dv, (i : Int)), putL_ok swo_soon HM.out.2 _ _ _⟩
        clear HM
        generalize putL soon hl ((i : Int) + 1) x (dv, (i : Int)) = hl5 at HM5 H5
        go_wp2
        go_roundg gk
        case measure => omega
        case rel => exact ⟨i + 1, hl5, A5, cap5, by first | rfl | (simp; done) | (rw [HWI.out]; rfl), ⟨by have := HI.out; omega⟩, H5, HM5, HB5⟩
end Go.Proofs.Ytibipbfmhbkpiaa.HeapPR
