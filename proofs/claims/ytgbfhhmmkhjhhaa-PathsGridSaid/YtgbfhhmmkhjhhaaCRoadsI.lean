/- slices.Insert at a list, one element. Conditions: those that stand in each theorem. Written by wip/gen/netins.py. -/
import Derived.Test.YtgbfhhmmkhjhhaaCRoadsK
import Derived.Test.YtgbfhhmmkhjhhaaCRoadsA
import Derived.Lib.AppendZerosOnto
import Derived.Lib.Overlaps
import Derived.Test.YtgbfhhmmkhjhhaaCSl
namespace Go.Proofs.Ytgbfhhmmkhjhhaa.Roads
open Go.RowKit Go.Proofs.YtgbfhhmmkhjhhaaW.PrintWords Go.Proofs.YtgbfhhmmkhjhhaaW.PrintLast Go.Proofs.YtgbfhhmmkhjhhaaW.PrintMore Go.Proofs.Ytgbfhhmmkhjhhaa.HeapW Go.Proofs.Ytgbfhhmmkhjhhaa.MapAt Go.Proofs.Ytgbfhhmmkhjhhaa.Copy
set_option linter.unusedVariables false
set_option linter.unusedSimpArgs false
theorem insInfo : (Try.prog.info? 40).map (fun i => (i.zero, i.size, i.bytes)) = some (some (.agg #[.int .i64 0, .int .i64 0, .int .i64 0]), 3, 24) := by kernel_rfl
theorem insInfoS : (Try.prog.info? 40).map (·.size) = some 3 := by kernel_rfl
theorem w_small {z : Int} (h : 0 ≤ z ∧ z ≤ 1000000) : wrap64 z = z := by unfold wrap64; omega
theorem cut_up (A : Option Addr) (n c : Nat) (j : Int) (h0 : 0 ≤ j) (hm : j ≤ c) :
    ∀ W : World, (Instr.slice 23 (.slice A n c) none (some (.int .i64 j)) none).run Try.prog W = .ok (.slice A j.toNat c) W := by
  intro W
  obtain ⟨i0, hi, _⟩ := Option.map_eq_some_iff.1 insInfoS
  have ht : Try.prog.underlying 23 = some (.slice 40) := Try.underlying23
  have hel : Try.prog.elem 23 = 40 := by simp [Program.elem, ht]
  have hu : Try.prog.underlying 23 = some (.slice (Try.prog.elem 23)) := by rw [hel]; exact ht
  have ha : (A.map fun x => x.add 0) = A := by cases A <;> simp [Addr.add]
  rw [run_slice_h W 23 A n c hu .i64 j h0 (by omega), hel]
  simp [sizeOf, typeInfo, hi, sliced, Result.andThen, ha]
theorem cut_at (g n c i : Nat) (hi : i ≤ n) (hc : c ≠ i) : ∀ W : World, (Instr.slice 23 (.slice (some ⟨g, 0, none⟩) n c) (some (.int .i64 (i : Int))) none none).run Try.prog W = .ok (.slice (some ⟨g, i * 3, none⟩) (n - i) (c - i)) W := by
  intro W
  obtain ⟨i0, hi0, hs0⟩ := Option.map_eq_some_iff.1 insInfoS
  rw [cut_from 23 40 .i64 Try.underlying23 hi0 3 hs0 (some ⟨g, 0, none⟩) n c (i : Int) (by omega) (by omega) W, Int.toNat_natCast, if_neg hc, Option.map_some, add_at, Nat.zero_add]
/-- the cells of an element -/
theorem ins_cells {W : World} {bv vb vc : Nat} {x : Rd} (hv : kRd.R 40 W bv (fun _ => True) (.slice (some ⟨vb, 0, none⟩) 1 vc) [x]) : ∃ cs : List Value, cs.length = 3 ∧ kRd.K W x cs ∧ (∀ u ∈ cs, u.oneCell' = true) ∧ (∀ j u, cs[j]? = some u → W.cell? ⟨vb, j, none⟩ = some u) ∧ ∃ cur, W.heap[vb]? = some (.cells cur 40 (0, 0)) := by
  obtain ⟨_, _, hC⟩ := Kd.R_reads' hv
  obtain ⟨a, ha, hj⟩ := hC.2.2 (by simp)
  cases ha
  obtain ⟨us, k1, k2, k3⟩ := hj 0 x rfl
  refine ⟨us, kRd.K_len k2, k2, kRd.K_one k2, fun j u hu => ?_, R_ty hv vb (by simp [Value.ownBlock])⟩
  have := k3 j u hu
  rw [Nat.zero_mul, Nat.zero_add, add_at, Nat.zero_add] at this
  exact this
set_option maxHeartbeats 3200000 in
set_option maxRecDepth 100000 in
theorem insert_end (base bv : Nat) (A : Option Addr) (c vb vc : Nat) (l : List Rd) (x : Rd) (w : World) (h : kRd.R 40 w base (fun _ => True) (.slice A l.length c) l) (hv : kRd.R 40 w bv (fun _ => True) (.slice (some ⟨vb, 0, none⟩) 1 vc) [x]) (hb : base ≤ w.heap.size) (hl : l.length ≤ 4096) :
    Calls Try.prog 33 #[.slice A l.length c, .int .i64 l.length, .slice (some ⟨vb, 0, none⟩) 1 vc] w fun e w' => ∃ A' c', e = .returned (.slice A' (l.length + 1) c') ∧ kRd.R 40 w' base (fun _ => True) (.slice A' (l.length + 1) c') (insL l l.length x) ∧ w.grownBy w' (Value.slice A l.length c).ownBlock ∧ ((Value.slice A' (l.length + 1) c').ownBlock = (Value.slice A l.length c).ownBlock ∨ ∃ b, (Value.slice A' (l.length + 1) c').ownBlock = some b ∧ w.heap.size ≤ b) := by
  obtain ⟨-, hcc, hC0⟩ := Kd.R_reads' h
  obtain ⟨-, -, hCv⟩ := Kd.R_reads' hv
  have H := Aside0.mk h
  have HC := Aside0.mk hCv
  have HB := Aside0.mk hb
  have HL := Aside0.mk hl
  have e0 : insL l l.length x = l ++ [x] := by unfold insL; simp
  rw [e0]
  obtain ⟨n, hn⟩ : ∃ n, n = l.length := ⟨_, rfl⟩
  have HN := Aside0.mk hn
  have HNL : Aside0 ((l ++ [x]).length = n + 1) := ⟨by simp [hn]⟩
  rw [← hn] at hcc ⊢
  obtain ⟨i0, hi0, hs0⟩ := Option.map_eq_some_iff.1 insInfoS
  obtain ⟨V0, hV0⟩ : ∃ V0, ∀ W : World, (Instr.slice 23 (.slice A n c) (some (.int .i64 (n : Int))) none none).run Try.prog W = .ok V0 W := ⟨_, cut_from 23 40 .i64 Try.underlying23 hi0 3 hs0 A n c (n : Int) (by omega) (by omega)⟩
  clear h hv hb hl hn hC0 hCv e0 hi0 hs0 hcc
  go_enter Try.func33, Try.ntmps33
  go_wp2_with ((with_reducible refine gate_builtin (b := .append) (xs := #[.tmp 23, .tmp 24]) rfl ?_); at_builtin; refine Kd.R_append_rows kRd (w0 := w) base rfl (.tmp 23) (.tmp 24) 23 40 (.agg #[.int .i64 0, .int .i64 0, .int .i64 0]) 24 rfl Try.underlying23 insInfo rfl (by decide) (by omega) (.slice A n c) l [x] (some ⟨vb, 0, none⟩) 1 vc (fun _ => True) (fun _ => False) rfl rfl (by have := H.out; rwa [← HN.out] at this) HC.out (fun _ _ h => kRd_K h) (fun _ h => h.elim) (fun _ _ => trivial) (Below.refl _ _) HB.out (by have := HL.out; omega) ?_; intro v9 w9 ho hb9 hg_ hat; obtain ⟨A9, c9, e9⟩ := Kd.R_slice ho; rw [HNL.out] at e9; subst e9; have HO := Aside0.mk ho; have HG := Aside0.mk (And.intro hg_ hat); clear ho hb9 hg_ hat)
  go_ret
  exact ⟨A9, c9, rfl, HO.out, HG.out.1, HG.out.2⟩
def ins.T11 : Bool × List (List Nat × List Nat) := (true, [([], []), ([], []), ([], []), ([1, 2], [1, 2]), ([0, 3], [0, 3]), ([], []), ([], []), ([5, 6], [5, 6]), ([4, 7], [4, 7])])
def ins.B11 : List Nat := [0, 0, 0, 6, 15, 0, 0, 96, 255]
theorem ins.tab11 : rtab .any (opsOf Try.f33 11) = ins.T11 := by kernel_rfl
theorem ins.bits11 : waitsOk ins.T11.2 ins.B11 = true := by kernel_rfl
def ins.T15 : Bool × List (List Nat × List Nat) := (true, [([], []), ([], []), ([], []), ([1, 2], [1, 2]), ([0, 3], [0, 3]), ([], []), ([], []), ([5, 6], [5, 6]), ([4, 7], [4, 7])])
def ins.B15 : List Nat := [0, 0, 0, 6, 15, 0, 0, 96, 255]
theorem ins.tab15 : rtab .any (opsOf Try.f33 15) = ins.T15 := by kernel_rfl
theorem ins.bits15 : waitsOk ins.T15.2 ins.B15 = true := by kernel_rfl
set_option maxHeartbeats 3200000 in
set_option maxRecDepth 100000 in
theorem insert_grow (base bv : Nat) (A : Option Addr) (c vb vc : Nat) (l : List Rd) (x : Rd) (w : World) (h : kRd.R 40 w base (fun _ => True) (.slice A l.length c) l) (hv : kRd.R 40 w bv (fun _ => True) (.slice (some ⟨vb, 0, none⟩) 1 vc) [x]) (hb : base ≤ w.heap.size) (hl : l.length ≤ 4096) (i : Nat) (hi : i < l.length) (hroom : c < l.length + 1) :
    Calls Try.prog 33 #[.slice A l.length c, .int .i64 (i : Int), .slice (some ⟨vb, 0, none⟩) 1 vc] w fun e w' => ∃ A' c', e = .returned (.slice A' (l.length + 1) c') ∧ kRd.R 40 w' base (fun _ => True) (.slice A' (l.length + 1) c') (insL l i x) ∧ w.grownBy w' (Value.slice A l.length c).ownBlock ∧ ((Value.slice A' (l.length + 1) c').ownBlock = (Value.slice A l.length c).ownBlock ∨ ∃ b, (Value.slice A' (l.length + 1) c').ownBlock = some b ∧ w.heap.size ≤ b) := by
  obtain ⟨-, hcc, hC0⟩ := Kd.R_reads' h
  obtain ⟨g, cap, hA, hg1, hg2, cur, hcur⟩ := Kd.R_form h (by omega)
  simp only [Value.slice.injEq] at hA
  obtain ⟨rfl, -, rfl⟩ := hA
  obtain ⟨-, inner, hown, hreps⟩ := h
  obtain ⟨cs, hcl, hcK, hc1, hcc1, curv, hcurv⟩ := ins_cells hv
  rcases hown.2 with ⟨hx, _⟩ | ⟨g', cap', cur', hx, hgb, hh, hnc, hcm, hcz, htk⟩
  · cases hx
  simp only [Value.slice.injEq, Option.some.injEq, Addr.mk.injEq, and_true] at hx
  obtain ⟨rfl, -, rfl⟩ := hx
  have hK : ∀ w1 : World, Reps (kRd.M w1 base (fun k => True ∧ some k ≠ some g)) 3 l inner := fun w1 => hreps.imp_ (fun _ _ hp => hp)
  have hkd : kRd.sz = 3 := rfl
  rw [hkd] at hown hcz htk
  have hin : inner.length = l.length * 3 := hown.1
  have HREPS : Aside0 (∀ (w1 : World) (g1 : Nat), Reps (kRd.M w1 base (fun k => True ∧ some k ≠ some g1)) 3 (insL l i x) (inner.take (i * 3) ++ cs ++ inner.drop (i * 3))) := ⟨fun w1 g1 => reps_ins (hreps.imp_ (fun _ _ hp => hp)) (by omega) (kRd_K (base := base) (w' := w1) hcK) hcl⟩
  have HONE : Aside0 (∀ u ∈ inner, u.oneCell' = true) := ⟨fun u hu => by
    obtain ⟨q, hq, rfl⟩ := List.mem_iff_getElem.1 hu
    have hql : q / 3 < l.length := by
      rw [Nat.div_lt_iff_lt_mul (by decide), ← hin]
      exact hq
    refine kRd.K_one (kRd.K_of_M (hreps.2 (q / 3) _ (List.getElem?_eq_getElem hql))) _ ?_
    rw [List.mem_iff_getElem?]
    refine ⟨q % 3, ?_⟩
    rw [hkd, List.getElem?_take, if_pos (Nat.mod_lt _ (by decide)), List.getElem?_drop, Nat.mul_comm, Nat.div_add_mod, List.getElem?_eq_getElem hq]⟩
  have HIC : Aside0 (∀ j u, inner[j]? = some u → w.cell? ⟨g, j, none⟩ = some u) := ⟨fun j u hu => by
    rw [cell_of_row w g j cur' 40 (0, 0) hh, ← Array.getElem?_toList]
    have hj : j < l.length * 3 := by rw [← hin]; exact (List.getElem?_eq_some_iff.1 hu).1
    rw [← htk, List.getElem?_take, if_pos hj] at hu
    exact hu⟩
  obtain ⟨n, hn⟩ : ∃ n, n = l.length := ⟨_, rfl⟩
  have HN := Aside0.mk hn
  rw [← hn] at hcc hi hl hnc hin htk ⊢
  have hne : ((i : Int) == (n : Int)) = false := by simp; omega
  have hV0 := cut_at g n c i (by omega) (by omega)
  have hii : ((i : Int) + 1) = ((i + 1 : Nat) : Int) := by omega
  have HCS := Aside0.mk (And.intro hcl (And.intro hcK (And.intro hc1 hcc1)))
  have HROW := Aside0.mk (And.intro hh (And.intro hcm (And.intro hcz htk)))
  have HIN := Aside0.mk hin
  have HI := Aside0.mk (And.intro hi hl)
  have HGG := Aside0.mk (And.intro hg1 (And.intro hg2 hb))
  have HCC := Aside0.mk hcc
  have HVB := Aside0.mk hcurv
  rw [← hn] at hroom
  have hcn : c = n := by omega
  have hgt : decide ((c : Int) < (n : Int) + 1) = true := decide_eq_true (by omega)
  have hgt2 : (c : Int) < (n : Int) + 1 := by omega
  obtain ⟨i0, hi0, hzz⟩ := Option.map_eq_some_iff.1 insInfo
  simp only [Prod.mk.injEq] at hzz
  obtain ⟨hz0, hz1, hz2⟩ := hzz
  have hV1 := cut_up (some ⟨g, 0, none⟩) n c (i : Int) (by omega) (by omega)
  rw [Int.toNat_natCast] at hV1
  have hold : (Builtin.firstCells i0.size i (.slice (some ⟨g, 0, none⟩) i c)).run Try.prog w.drew = .ok (inner.take (i * 3)).toArray w.drew := by
    rw [hz1]
    exact run_firstCells_some w.drew 3 i ⟨g, 0, none⟩ i c (inner.take (i * 3)) (by rw [List.length_take, hin]; omega) (fun j v hj => by
      rw [add_at, Nat.zero_add]
      rw [List.getElem?_take] at hj
      split at hj
      · exact HIC.out j v hj
      · cases hj)
  obtain ⟨G, hG⟩ : ∃ G, G = grownCap w (n + 1) c 40 := ⟨_, rfl⟩
  obtain ⟨ROW, hROW⟩ : ∃ ROW : Array Value, ROW = (inner.take (i * 3)).toArray ++ Builtin.zeroCells (Value.cells (.agg #[.int .i64 0, .int .i64 0, .int .i64 0])) (n + 1 - i) ++ Builtin.zeroCells (Value.cells (.agg #[.int .i64 0, .int .i64 0, .int .i64 0])) (G - (n + 1)) := ⟨_, rfl⟩
  have hrz : (Builtin.append_ #[23, 3] 23 #[.slice (some ⟨g, 0, none⟩) i c, .int .i64 ((n : Int) + 1 - (i : Int))]).run Try.prog w = .ok (.slice (some ⟨w.heap.size, 0, none⟩) (n + 1) G) (w.drew.alloc (.cells ROW 40)) := by
    have h := Go.Lib.run_append_grow_zeros w 23 3 23 40 i0 _ .i64 .i64 Try.underlying23 Try.underlying3 hi0 hz0 (some ⟨g, 0, none⟩) i c (inner.take (i * 3)) hold (n + 1 - i) (by omega) (by rw [hz1]; decide) (by omega) (by omega) (by rw [hz2]; omega) (by rw [hz2, show i + (n + 1 - i) = n + 1 by omega]; exact growslice_fits (by omega) (by omega))
    rw [show i + (n + 1 - i) = n + 1 by omega, ← hG, ← hROW, show ((n + 1 - i : Nat) : Int) = (n : Int) + 1 - (i : Int) by omega] at h
    exact h
  have hGn : n + 1 ≤ G := by rw [hG]; exact grownCap_ge w _ _ _
  have hG63 : G ≤ maxLen := by rw [hG]; exact grownCap_le_maxLen w (n + 1) c 40 (by unfold maxLen; omega)
  have hRS : ROW.size = G * 3 := by
    rw [hROW]
    simp [Builtin.zeroCells, Value.cells, hin]
    omega
  have hRT : ROW.toList.take (i * 3) = inner.take (i * 3) := by
    rw [hROW]
    simp only [Array.toList_append, List.append_assoc]
    rw [List.take_append_of_le_length (by simp [hin]; omega)]
    simp [List.take_take]
  obtain ⟨gn, hgn⟩ : ∃ gn, gn = w.heap.size := ⟨_, rfl⟩
  have HB1 : Aside0 (Below w.heap.size w (w.drew.alloc (.cells ROW 40))) := ⟨below_alloc (below_drew (Below.refl _ _)) _⟩
  have HG1 : Aside0 ((w.drew.alloc (.cells ROW 40)).heap[gn]? = some (.cells ROW 40 (0, 0))) := ⟨by rw [hgn]; exact blk_new w.drew _⟩
  rw [← hgn] at hrz
  obtain ⟨wa, hwa⟩ : ∃ wa, wa = w.drew.alloc (.cells ROW 40) := ⟨_, rfl⟩
  rw [← hwa] at hrz HB1 HG1
  obtain ⟨n1, hn1⟩ : ∃ n1, n1 = n + 1 := ⟨_, rfl⟩
  rw [← hn1] at hrz
  have hV2 := cut_at gn n1 G i (by omega) (by omega)
  have hV3 := cut_at gn n1 G (i + 1) (by omega) (by omega)
  rw [← hii] at hV3
  have HGN := Aside0.mk hgn
  have HWS : Aside0 (wrap64 ((n : Int) + 1) = (n : Int) + 1 ∧ wrap64 ((i : Int) + 1) = (i : Int) + 1 ∧ wrap64 ((n : Int) + 1 - (i : Int)) = (n : Int) + 1 - (i : Int)) := ⟨w_small (by omega), w_small (by omega), w_small (by omega)⟩
  -- the two copies
  have hcsl : i * 3 + cs.length ≤ ROW.size := by rw [hcl, hRS]; have : (i + 1) * 3 ≤ G * 3 := Nat.mul_le_mul_right _ (by omega); omega
  have hcp1 : (Builtin.copy_ #[23, 23] 3 #[.slice (some ⟨gn, i * 3, none⟩) (n1 - i) (G - i), .slice (some ⟨vb, 0, none⟩) 1 vc]).run Try.prog wa = .ok (goInt 1) (wa.setRow gn (wr ROW.toList (i * 3) cs).toArray) :=
    run_copy_wr wa 23 23 3 40 gn (i * 3) (n1 - i) (G - i) ⟨vb, 0, none⟩ 1 vc ROW 40 cs 3 1 Try.underlying23 insInfoS HG1.out (by simp only [Nat.min_def]; split <;> omega) (by rw [hcl]) (fun j v hj => by rw [add_at, Nat.zero_add]; exact pw_cell_below HB1.out (hcc1 j v hj)) hcsl hc1
  obtain ⟨wb, hwb⟩ : ∃ wb, wb = wa.setRow gn (wr ROW.toList (i * 3) cs).toArray := ⟨_, rfl⟩
  rw [← hwb] at hcp1
  have HG2 : Aside0 (wb.heap[gn]? = some (.cells (wr ROW.toList (i * 3) cs).toArray 40 (0, 0))) := ⟨by rw [hwb]; exact setRow_heap wa gn ROW _ 40 (0, 0) HG1.out⟩
  have HB2 : Aside0 (Below w.heap.size w wb) := ⟨by rw [hwb]; exact below_setRow HB1.out (by omega) _⟩
  have hdl : (inner.drop (i * 3)).length = (n - i) * 3 := by rw [List.length_drop, hin, Nat.sub_mul]
  have hwl : (wr ROW.toList (i * 3) cs).length = ROW.size := by rw [wr_len (by simpa using hcsl)]; simp
  have hG3 : (i + 1) * 3 + (n - i) * 3 ≤ ROW.size := by rw [hRS, ← Nat.add_mul]; exact Nat.mul_le_mul_right _ (by omega)
  have HG3 : Aside0 (wb.drew.heap[gn]? = some (.cells (wr ROW.toList (i * 3) cs).toArray 40 (0, 0))) := ⟨HG2.out⟩
  have HB3 : Aside0 (Below w.heap.size w wb.drew) := ⟨below_drew HB2.out⟩
  have hcp2 : (Builtin.copy_ #[23, 23] 3 #[.slice (some ⟨gn, (i + 1) * 3, none⟩) (n1 - (i + 1)) (G - (i + 1)), .slice (some ⟨g, i * 3, none⟩) (n - i) (c - i)]).run Try.prog wb.drew = .ok (goInt ((n - i : Nat) : Int)) (wb.drew.setRow gn (wr (wr ROW.toList (i * 3) cs).toArray.toList ((i + 1) * 3) (inner.drop (i * 3))).toArray) :=
    run_copy_wr wb.drew 23 23 3 40 gn ((i + 1) * 3) (n1 - (i + 1)) (G - (i + 1)) ⟨g, i * 3, none⟩ (n - i) (c - i) _ 40 (inner.drop (i * 3)) 3 (n - i) Try.underlying23 insInfoS HG3.out (by simp only [Nat.min_def]; split <;> omega) hdl (fun j v hj => by
      rw [add_at]
      refine pw_cell_below HB3.out ?_
      rw [List.getElem?_drop] at hj
      exact HIC.out _ v hj) (by rw [hdl]; simpa [hwl] using hG3) (fun u hu => HONE.out u (List.mem_of_mem_drop hu))
  obtain ⟨wd, hwd⟩ : ∃ wd, wd = wb.drew.setRow gn (wr (wr ROW.toList (i * 3) cs).toArray.toList ((i + 1) * 3) (inner.drop (i * 3))).toArray := ⟨_, rfl⟩
  rw [← hwd] at hcp2
  have HG4 : Aside0 (wd.heap[gn]? = some (.cells (wr (wr ROW.toList (i * 3) cs).toArray.toList ((i + 1) * 3) (inner.drop (i * 3))).toArray 40 (0, 0))) := ⟨by rw [hwd]; exact setRow_heap wb.drew gn _ _ 40 (0, 0) HG3.out⟩
  have HB4 : Aside0 (Below w.heap.size w wd) := ⟨by rw [hwd]; exact below_setRow HB3.out (by omega) _⟩
  have HFIN : Aside0 ((wr (wr ROW.toList (i * 3) cs).toArray.toList ((i + 1) * 3) (inner.drop (i * 3))).toArray.size = G * 3 ∧ (wr (wr ROW.toList (i * 3) cs).toArray.toList ((i + 1) * 3) (inner.drop (i * 3))).toArray.toList.take ((insL l i x).length * 3) = inner.take (i * 3) ++ cs ++ inner.drop (i * 3)) := ⟨by
    have e : (i + 1) * 3 = i * 3 + cs.length := by rw [hcl, Nat.add_mul, Nat.one_mul]
    constructor
    · simp only [List.size_toArray]
      rw [wr_len (by rw [hdl]; simpa [hwl] using hG3), List.toList_toArray, hwl, hRS]
    · rw [insL_len, ← hn, e, show (n + 1) * 3 = inner.length + cs.length by rw [hin, hcl, Nat.add_mul, Nat.one_mul]]
      have hle : i * 3 ≤ inner.length := by rw [hin]; exact Nat.mul_le_mul_right _ (by omega)
      exact ins_grow rfl hle (by rw [hin, hcl, Array.length_toList, hRS, ← Nat.succ_mul]; exact Nat.mul_le_mul_right _ hGn) hRT⟩
  have HLE : Aside0 (n + 1 ≤ G ∧ G ≤ maxLen) := ⟨⟨hGn, hG63⟩⟩
  have HN1 := Aside0.mk hn1
  clear hreps hK hown hh hcz htk hcK hc1 hcc1 hcurv hC0 hold hROW hG hgn hwa hwb hg1 hg2 hcur hb hi hl hin hi0 hz0 hz1 hz2 hv hnc hcsl hdl hwl hG3 hwd hkd hRS hRT hGn hG63 hcl hcm hn hn1 hii hcn
  obtain ⟨hw0, hw1, hw2⟩ := HWS.out
  rw [← hw2] at hrz
  go_enter Try.func33, Try.ntmps33
  go_wp2_with (first
    | ((with_reducible refine gate_dst (N := 40) rfl ?_); refine Go.Lib.wpList_append_run w rfl (.tmp 34) (.tmp 39) 23 3 rfl _ _ rfl rfl _ _ hrz ?_)
    | ((with_reducible refine gate_dst (N := 45) rfl ?_); refine wpList_copy rfl (.tmp 43) (.tmp 44) 23 23 rfl _ _ rfl rfl hcp1 ?_))
  refine start_ (n := 9) (S := fun w' => True) (ds := []) #[ff,ff,ff,ff,ff,ff,ff,ff,ff] (by kernel_rfl) rfl rfl trivial (fun hHeld => ?_)
  refine with_tabW ins.tab11 ins.bits11 (fun HT_ HW_ => ?_)
  refine pure_ (i := 0) (N := some 46) (v := ?_) (a' := ?_) #[tt,ff,ff,ff,ff,ff,ff,ff,ff] rfl rfl (any_of HT_.out (by kernel_rfl)) (fun _ _ _ h => h) (Or.inl ⟨by rfl, ?_⟩) ?_ ?_
  rotate_left; exact slv; rotate_left; exact sla
  refine pure_ (i := 1) (N := some 47) (v := ?_) (a' := ?_) #[tt,tt,ff,ff,ff,ff,ff,ff,ff] rfl rfl (any_of HT_.out (by kernel_rfl)) (fun _ _ _ h => h) (Or.inl ⟨by rfl, ?_⟩) ?_ ?_
  rotate_left; exact slv; rotate_left; exact sla
  refine pure_ (i := 2) (N := some 48) (v := ?_) (a' := ?_) #[tt,tt,tt,ff,ff,ff,ff,ff,ff] rfl rfl (any_of HT_.out (by kernel_rfl)) (fun _ _ _ h => h) (Or.inl ⟨by rfl, ?_⟩) ?_ ?_
  rotate_left; exact slv; rotate_left; exact sla
  refine pure_ (i := 3) (N := some 49) (v := ?_) (a' := ?_) #[tt,tt,tt,tt,ff,ff,ff,ff,ff] rfl rfl (any_of HT_.out (by kernel_rfl)) (fun _ _ _ h => h) (Or.inl ⟨by rfl, ?_⟩) ?_ ?_
  rotate_left; exact slv; rotate_left; exact sla
  refine pure_ (i := 4) (N := some 50) (v := ?_) (a' := ?_) #[tt,tt,tt,tt,tt,ff,ff,ff,ff] rfl rfl (any_of HT_.out (by kernel_rfl)) (fun _ _ _ h => h) (Or.inl ⟨by rfl, ?_⟩) ?_ ?_
  rotate_left; exact slv; rotate_left; exact sla
  refine pure_ (i := 5) (N := some 51) (v := ?_) (a' := ?_) #[tt,tt,tt,tt,tt,tt,ff,ff,ff] rfl rfl (any_of HT_.out (by kernel_rfl)) (fun _ _ _ h => h) (Or.inl ⟨by rfl, ?_⟩) ?_ ?_
  rotate_left; exact slv; rotate_left; exact sla
  refine pure_ (i := 6) (N := some 52) (v := ?_) (a' := ?_) #[tt,tt,tt,tt,tt,tt,tt,ff,ff] rfl rfl (any_of HT_.out (by kernel_rfl)) (fun _ _ _ h => h) (Or.inl ⟨by rfl, ?_⟩) ?_ ?_
  rotate_left; exact slv; rotate_left; exact sla
  refine pure_ (i := 7) (N := some 53) (v := ?_) (a' := ?_) #[tt,tt,tt,tt,tt,tt,tt,tt,ff] rfl rfl (any_of HT_.out (by kernel_rfl)) (fun _ _ _ h => h) (Or.inl ⟨by rfl, ?_⟩) ?_ ?_
  rotate_left; exact slv; rotate_left; exact sla
  refine one_ (i := 8) (N := some 54) #[tt,tt,tt,tt,tt,tt,tt,tt,tt] rfl rfl (one_of HT_.out (by kernel_rfl)) (by decide) (fun K hK => ?_)
  refine value_ (w1 := ?_) (v := ?_) (by rfl) rfl ?_ ?_
  rotate_left 2
  · go_simp
    constructor
    · rfl
    · rfl
  refine hK.out _ _ trivial (fun hHeld => ?_)
  clear hK K
  refine norm_ (a' := ?_) ?_ ?_
  rotate_left
  · show Act.put _ (some 54) _ = _
    simp only [Act.put, List.setIfInBounds_toArray, List.set_cons_zero, List.set_cons_succ, i64_w, i32_w]
    rfl
  refine done_ (done_of HT_.out (by kernel_rfl)) ?_
  go_wp2
  go_ret
  refine ⟨some ⟨gn, 0, none⟩, G, by rw [← HN1.out]; rfl, ?_, ⟨HB4.out.os, HB4.out.tape, HB4.out.output, HB4.out.size, fun k hk _ => HB4.out.block k hk⟩, Or.inr ⟨gn, by simp [Value.ownBlock], by have := HGN.out; omega⟩⟩
  have hlen : (insL l i x).length = n + 1 := by rw [insL_len, ← HN.out]
  rw [← hlen]
  exact R_of_cells kRd trivial (by have := HGN.out; have := HGG.out; omega) HG4.out (by rw [hlen]; exact HLE.out.1) HLE.out.2 HFIN.out.1 HFIN.out.2 (HREPS.out wd gn)
set_option maxHeartbeats 3200000 in
set_option maxRecDepth 100000 in
theorem insert_shift (base bv : Nat) (A : Option Addr) (c vb vc : Nat) (l : List Rd) (x : Rd) (w : World) (h : kRd.R 40 w base (fun _ => True) (.slice A l.length c) l) (hv : kRd.R 40 w bv (fun _ => True) (.slice (some ⟨vb, 0, none⟩) 1 vc) [x]) (hb : base ≤ w.heap.size) (hl : l.length ≤ 4096) (hvb : ∀ a, A = some a → a.block ≠ vb) (i : Nat) (hi : i < l.length) (hroom : l.length + 1 ≤ c) :
    Calls Try.prog 33 #[.slice A l.length c, .int .i64 (i : Int), .slice (some ⟨vb, 0, none⟩) 1 vc] w fun e w' => ∃ A' c', e = .returned (.slice A' (l.length + 1) c') ∧ kRd.R 40 w' base (fun _ => True) (.slice A' (l.length + 1) c') (insL l i x) ∧ w.grownBy w' (Value.slice A l.length c).ownBlock ∧ ((Value.slice A' (l.length + 1) c').ownBlock = (Value.slice A l.length c).ownBlock ∨ ∃ b, (Value.slice A' (l.length + 1) c').ownBlock = some b ∧ w.heap.size ≤ b) := by
  obtain ⟨-, hcc, hC0⟩ := Kd.R_reads' h
  obtain ⟨g, cap, hA, hg1, hg2, cur, hcur⟩ := Kd.R_form h (by omega)
  simp only [Value.slice.injEq] at hA
  obtain ⟨rfl, -, rfl⟩ := hA
  obtain ⟨-, inner, hown, hreps⟩ := h
  obtain ⟨cs, hcl, hcK, hc1, hcc1, curv, hcurv⟩ := ins_cells hv
  rcases hown.2 with ⟨hx, _⟩ | ⟨g', cap', cur', hx, hgb, hh, hnc, hcm, hcz, htk⟩
  · cases hx
  simp only [Value.slice.injEq, Option.some.injEq, Addr.mk.injEq, and_true] at hx
  obtain ⟨rfl, -, rfl⟩ := hx
  have hK : ∀ w1 : World, Reps (kRd.M w1 base (fun k => True ∧ some k ≠ some g)) 3 l inner := fun w1 => hreps.imp_ (fun _ _ hp => hp)
  have hkd : kRd.sz = 3 := rfl
  rw [hkd] at hown hcz htk
  have hin : inner.length = l.length * 3 := hown.1
  have HREPS : Aside0 (∀ (w1 : World) (g1 : Nat), Reps (kRd.M w1 base (fun k => True ∧ some k ≠ some g1)) 3 (insL l i x) (inner.take (i * 3) ++ cs ++ inner.drop (i * 3))) := ⟨fun w1 g1 => reps_ins (hreps.imp_ (fun _ _ hp => hp)) (by omega) (kRd_K (base := base) (w' := w1) hcK) hcl⟩
  have HONE : Aside0 (∀ u ∈ inner, u.oneCell' = true) := ⟨fun u hu => by
    obtain ⟨q, hq, rfl⟩ := List.mem_iff_getElem.1 hu
    have hql : q / 3 < l.length := by
      rw [Nat.div_lt_iff_lt_mul (by decide), ← hin]
      exact hq
    refine kRd.K_one (kRd.K_of_M (hreps.2 (q / 3) _ (List.getElem?_eq_getElem hql))) _ ?_
    rw [List.mem_iff_getElem?]
    refine ⟨q % 3, ?_⟩
    rw [hkd, List.getElem?_take, if_pos (Nat.mod_lt _ (by decide)), List.getElem?_drop, Nat.mul_comm, Nat.div_add_mod, List.getElem?_eq_getElem hq]⟩
  have HIC : Aside0 (∀ j u, inner[j]? = some u → w.cell? ⟨g, j, none⟩ = some u) := ⟨fun j u hu => by
    rw [cell_of_row w g j cur' 40 (0, 0) hh, ← Array.getElem?_toList]
    have hj : j < l.length * 3 := by rw [← hin]; exact (List.getElem?_eq_some_iff.1 hu).1
    rw [← htk, List.getElem?_take, if_pos hj] at hu
    exact hu⟩
  obtain ⟨n, hn⟩ : ∃ n, n = l.length := ⟨_, rfl⟩
  have HN := Aside0.mk hn
  rw [← hn] at hcc hi hl hnc hin htk ⊢
  have hne : ((i : Int) == (n : Int)) = false := by simp; omega
  have hV0 := cut_at g n c i (by omega) (by omega)
  have hii : ((i : Int) + 1) = ((i + 1 : Nat) : Int) := by omega
  have HCS := Aside0.mk (And.intro hcl (And.intro hcK (And.intro hc1 hcc1)))
  have HROW := Aside0.mk (And.intro hh (And.intro hcm (And.intro hcz htk)))
  have HIN := Aside0.mk hin
  have HI := Aside0.mk (And.intro hi hl)
  have HGG := Aside0.mk (And.intro hg1 (And.intro hg2 hb))
  have HCC := Aside0.mk hcc
  have HVB := Aside0.mk hcurv
  rw [← hn] at hroom
  have hgv : g ≠ vb := hvb _ rfl
  have hgt : decide ((c : Int) < (n : Int) + 1) = false := decide_eq_false (by omega)
  have hgt2 : ¬ ((c : Int) < (n : Int) + 1) := by omega
  obtain ⟨n1, hn1⟩ : ∃ n1, n1 = n + 1 := ⟨_, rfl⟩
  have hV1 := cut_up (some ⟨g, 0, none⟩) n c ((n : Int) + 1) (by omega) (by omega)
  rw [show ((n : Int) + 1).toNat = n1 by omega] at hV1
  have hV2 := cut_at g n1 c i (by omega) (by omega)
  have hV3 := cut_at g n1 c (i + 1) (by omega) (by omega)
  rw [← hii] at hV3
  have hov : (callFunc 41 #[.slice (some ⟨vb, 0, none⟩) 1 vc, .slice (some ⟨g, (i + 1) * 3, none⟩) (n1 - (i + 1)) (c - (i + 1))]).run Try.prog w = .ok (.value (.bool false)) w := by
    rw [Go.run_callFunc_extern Try.func41 (by kernel_rfl) (by kernel_rfl) (by kernel_rfl) (e := Extern.SlicesOverlaps.overlaps #[23, 23] #[4]) (by kernel_rfl),
      Go.Lib.run_overlaps_apart w 23 4 40 Try.underlying23 3 (fun W => by
        obtain ⟨i0, hi0, hs0⟩ := Option.map_eq_some_iff.1 insInfoS
        simp [sizeOf, typeInfo, hi0, hs0]) ⟨vb, 0, none⟩ ⟨g, (i + 1) * 3, none⟩ 1 vc (n1 - (i + 1)) (c - (i + 1)) (Ne.symm hgv) 40 40 curv.size cur'.size (by simp [World.shape?, hcurv]) (by simp [World.shape?, hh]) (by rw [hcz]; omega) (blk_frozen hcurv 0) (blk_frozen hcurv _)]
    rfl
  -- the two copies
  have hdl : (inner.drop (i * 3)).length = (n - i) * 3 := by rw [List.length_drop, hin, Nat.sub_mul]
  have hG3 : (i + 1) * 3 + (n - i) * 3 ≤ cur'.size := by rw [hcz, ← Nat.add_mul]; exact Nat.mul_le_mul_right _ (by omega)
  have HG1 : Aside0 (w.drew.heap[g]? = some (.cells cur' 40 (0, 0))) := ⟨hh⟩
  have hcp1 : (Builtin.copy_ #[23, 23] 3 #[.slice (some ⟨g, (i + 1) * 3, none⟩) (n1 - (i + 1)) (c - (i + 1)), .slice (some ⟨g, i * 3, none⟩) (n1 - i) (c - i)]).run Try.prog w.drew = .ok (goInt ((n - i : Nat) : Int)) (w.drew.setRow g (wr cur'.toList ((i + 1) * 3) (inner.drop (i * 3))).toArray) :=
    run_copy_wr w.drew 23 23 3 40 g ((i + 1) * 3) (n1 - (i + 1)) (c - (i + 1)) ⟨g, i * 3, none⟩ (n1 - i) (c - i) cur' 40 (inner.drop (i * 3)) 3 (n - i) Try.underlying23 insInfoS HG1.out (by simp only [Nat.min_def]; split <;> omega) hdl (fun j v hj => by
      rw [add_at]
      rw [List.getElem?_drop] at hj
      exact HIC.out _ v hj) (by rw [hdl]; exact hG3) (fun u hu => HONE.out u (List.mem_of_mem_drop hu))
  obtain ⟨wb, hwb⟩ : ∃ wb, wb = w.drew.setRow g (wr cur'.toList ((i + 1) * 3) (inner.drop (i * 3))).toArray := ⟨_, rfl⟩
  rw [← hwb] at hcp1
  have HG2 : Aside0 (wb.heap[g]? = some (.cells (wr cur'.toList ((i + 1) * 3) (inner.drop (i * 3))).toArray 40 (0, 0))) := ⟨by rw [hwb]; exact setRow_heap w.drew g cur' _ 40 (0, 0) HG1.out⟩
  have HC2 : Aside0 (w.grownBy wb (some g)) := ⟨by
    have h := grown_setRow (w := w.drew) (g := g) (wr cur'.toList ((i + 1) * 3) (inner.drop (i * 3))).toArray
    rw [← hwb] at h
    exact ⟨h.os, h.tape, h.output, h.size, h.block⟩⟩
  have hwl : (wr cur'.toList ((i + 1) * 3) (inner.drop (i * 3))).length = cur'.size := by rw [wr_len (by rw [hdl]; simpa using hG3)]; simp
  have hcsl : i * 3 + cs.length ≤ cur'.size := by rw [hcl, hcz, ← Nat.succ_mul]; exact Nat.mul_le_mul_right _ (by omega)
  have hcp2 : (Builtin.copy_ #[23, 23] 3 #[.slice (some ⟨g, i * 3, none⟩) (n1 - i) (c - i), .slice (some ⟨vb, 0, none⟩) 1 vc]).run Try.prog wb = .ok (goInt 1) (wb.setRow g (wr (wr cur'.toList ((i + 1) * 3) (inner.drop (i * 3))).toArray.toList (i * 3) cs).toArray) :=
    run_copy_wr wb 23 23 3 40 g (i * 3) (n1 - i) (c - i) ⟨vb, 0, none⟩ 1 vc _ 40 cs 3 1 Try.underlying23 insInfoS HG2.out (by simp only [Nat.min_def]; split <;> omega) (by rw [hcl]) (fun j v hj => by
      rw [add_at, Nat.zero_add]
      exact HC2.out.cell (hcc1 j v hj) (fun e => hgv (Option.some.inj e).symm)) (by simpa [hwl] using hcsl) hc1
  obtain ⟨wd, hwd⟩ : ∃ wd, wd = wb.setRow g (wr (wr cur'.toList ((i + 1) * 3) (inner.drop (i * 3))).toArray.toList (i * 3) cs).toArray := ⟨_, rfl⟩
  rw [← hwd] at hcp2
  have HG4 : Aside0 (wd.heap[g]? = some (.cells (wr (wr cur'.toList ((i + 1) * 3) (inner.drop (i * 3))).toArray.toList (i * 3) cs).toArray 40 (0, 0))) := ⟨by rw [hwd]; exact setRow_heap wb g _ _ 40 (0, 0) HG2.out⟩
  have HC4 : Aside0 (w.grownBy wd (some g)) := ⟨by
    have h := grown_setRow (w := wb) (g := g) (wr (wr cur'.toList ((i + 1) * 3) (inner.drop (i * 3))).toArray.toList (i * 3) cs).toArray
    rw [← hwd] at h
    exact ⟨h.os.trans HC2.out.os, h.tape.trans HC2.out.tape, h.output.trans HC2.out.output, Nat.le_trans HC2.out.size h.size, fun k hk hne => (h.block k (Nat.lt_of_lt_of_le hk HC2.out.size) hne).trans (HC2.out.block k hk hne)⟩⟩
  have HFIN : Aside0 ((wr (wr cur'.toList ((i + 1) * 3) (inner.drop (i * 3))).toArray.toList (i * 3) cs).toArray.size = c * 3 ∧ (wr (wr cur'.toList ((i + 1) * 3) (inner.drop (i * 3))).toArray.toList (i * 3) cs).toArray.toList.take ((insL l i x).length * 3) = inner.take (i * 3) ++ cs ++ inner.drop (i * 3)) := ⟨by
    have e : (i + 1) * 3 = i * 3 + cs.length := by rw [hcl, Nat.add_mul, Nat.one_mul]
    constructor
    · simp only [List.size_toArray]
      rw [wr_len (by simpa [hwl] using hcsl), List.toList_toArray, hwl, hcz]
    · rw [insL_len, ← hn, e, show (n + 1) * 3 = inner.length + cs.length by rw [hin, hcl, Nat.add_mul, Nat.one_mul]]
      have hle : i * 3 ≤ inner.length := by rw [hin]; exact Nat.mul_le_mul_right _ (by omega)
      exact ins_shift rfl hle (by rw [hin, hcl, Array.length_toList, hcz, ← Nat.succ_mul]; exact Nat.mul_le_mul_right _ hroom) (by
        rw [← htk, List.take_take, Nat.min_eq_left (Nat.mul_le_mul_right _ (by omega))])⟩
  have HLE : Aside0 (n + 1 ≤ c ∧ c ≤ maxLen) := ⟨⟨hroom, hcm⟩⟩
  have HN1 := Aside0.mk hn1
  have HWS : Aside0 (wrap64 ((n : Int) + 1) = (n : Int) + 1 ∧ wrap64 ((i : Int) + 1) = (i : Int) + 1) := ⟨w_small (by omega), w_small (by omega)⟩
  have hnn : ((n1 : Nat) : Int) = (n : Int) + 1 := by omega
  clear hreps hK hown hh hcz htk hcK hc1 hcc1 hcurv hC0 hwb hg1 hg2 hcur hb hi hl hin hv hnc hcsl hdl hwl hG3 hwd hkd hcl hcm hn hn1 hroom hnn hii
  obtain ⟨hw0, hw1⟩ := HWS.out
  go_enter Try.func33, Try.ntmps33
  go_wp2_with (simp only [hov])

  refine start_ (n := 9) (S := fun w' => True) (ds := []) #[ff,ff,ff,ff,ff,ff,ff,ff,ff] (by kernel_rfl) rfl rfl trivial (fun hHeld => ?_)
  refine with_tabW ins.tab15 ins.bits15 (fun HT_ HW_ => ?_)
  refine pure_ (i := 0) (N := some 69) (v := ?_) (a' := ?_) #[tt,ff,ff,ff,ff,ff,ff,ff,ff] rfl rfl (any_of HT_.out (by kernel_rfl)) (fun _ _ _ h => h) (Or.inl ⟨by rfl, ?_⟩) ?_ ?_
  rotate_left; exact slv; rotate_left; exact sla
  refine pure_ (i := 1) (N := some 70) (v := ?_) (a' := ?_) #[tt,tt,ff,ff,ff,ff,ff,ff,ff] rfl rfl (any_of HT_.out (by kernel_rfl)) (fun _ _ _ h => h) (Or.inl ⟨by rfl, ?_⟩) ?_ ?_
  rotate_left; exact slv; rotate_left; exact sla
  refine pure_ (i := 2) (N := some 71) (v := ?_) (a' := ?_) #[tt,tt,tt,ff,ff,ff,ff,ff,ff] rfl rfl (any_of HT_.out (by kernel_rfl)) (fun _ _ _ h => h) (Or.inl ⟨by rfl, ?_⟩) ?_ ?_
  rotate_left; exact slv; rotate_left; exact sla
  refine pure_ (i := 3) (N := some 72) (v := ?_) (a' := ?_) #[tt,tt,tt,tt,ff,ff,ff,ff,ff] rfl rfl (any_of HT_.out (by kernel_rfl)) (fun _ _ _ h => h) (Or.inl ⟨by rfl, ?_⟩) ?_ ?_
  rotate_left; exact slv; rotate_left; exact sla
  refine pure_ (i := 4) (N := some 73) (v := ?_) (a' := ?_) #[tt,tt,tt,tt,tt,ff,ff,ff,ff] rfl rfl (any_of HT_.out (by kernel_rfl)) (fun _ _ _ h => h) (Or.inl ⟨by rfl, ?_⟩) ?_ ?_
  rotate_left; exact slv; rotate_left; exact sla
  refine pure_ (i := 5) (N := some 74) (v := ?_) (a' := ?_) #[tt,tt,tt,tt,tt,tt,ff,ff,ff] rfl rfl (any_of HT_.out (by kernel_rfl)) (fun _ _ _ h => h) (Or.inl ⟨by rfl, ?_⟩) ?_ ?_
  rotate_left; exact slv; rotate_left; exact sla
  refine pure_ (i := 6) (N := some 75) (v := ?_) (a' := ?_) #[tt,tt,tt,tt,tt,tt,tt,ff,ff] rfl rfl (any_of HT_.out (by kernel_rfl)) (fun _ _ _ h => h) (Or.inl ⟨by rfl, ?_⟩) ?_ ?_
  rotate_left; exact slv; rotate_left; exact sla
  refine pure_ (i := 7) (N := some 76) (v := ?_) (a' := ?_) #[tt,tt,tt,tt,tt,tt,tt,tt,ff] rfl rfl (any_of HT_.out (by kernel_rfl)) (fun _ _ _ h => h) (Or.inl ⟨by rfl, ?_⟩) ?_ ?_
  rotate_left; exact slv; rotate_left; exact sla
  refine one_ (i := 8) (N := some 77) #[tt,tt,tt,tt,tt,tt,tt,tt,tt] rfl rfl (one_of HT_.out (by kernel_rfl)) (by decide) (fun K hK => ?_)
  refine value_ (w1 := ?_) (v := ?_) (by rfl) rfl ?_ ?_
  rotate_left 2
  · go_simp
    constructor
    · rfl
    · rfl
  refine hK.out _ _ trivial (fun hHeld => ?_)
  clear hK K
  refine norm_ (a' := ?_) ?_ ?_
  rotate_left
  · show Act.put _ (some 77) _ = _
    simp only [Act.put, List.setIfInBounds_toArray, List.set_cons_zero, List.set_cons_succ, i64_w, i32_w]
    rfl
  refine done_ (done_of HT_.out (by kernel_rfl)) ?_
  go_wp2_with ((with_reducible refine gate_dst (N := 82) rfl ?_); refine wpList_copy rfl (.tmp 80) (.tmp 81) 23 23 rfl _ _ rfl rfl hcp2 ?_)
  go_ret
  refine ⟨some ⟨g, 0, none⟩, c, by rw [← HN1.out]; rfl, ?_, HC4.out, Or.inl rfl⟩
  have hlen : (insL l i x).length = n + 1 := by rw [insL_len, ← HN.out]
  rw [← hlen]
  exact R_of_cells kRd trivial HGG.out.1 HG4.out (by rw [hlen]; exact HLE.out.1) HLE.out.2 HFIN.out.1 HFIN.out.2 (HREPS.out wd g)
theorem insert_calls (base bv : Nat) (A : Option Addr) (c vb vc : Nat) (l : List Rd) (x : Rd) (w : World) (h : kRd.R 40 w base (fun _ => True) (.slice A l.length c) l) (hv : kRd.R 40 w bv (fun _ => True) (.slice (some ⟨vb, 0, none⟩) 1 vc) [x]) (hb : base ≤ w.heap.size) (hl : l.length ≤ 4096) (hvb : ∀ a, A = some a → a.block ≠ vb) (i : Nat) (hi : i ≤ l.length) :
    Calls Try.prog 33 #[.slice A l.length c, .int .i64 (i : Int), .slice (some ⟨vb, 0, none⟩) 1 vc] w fun e w' => ∃ A' c', e = .returned (.slice A' (l.length + 1) c') ∧ kRd.R 40 w' base (fun _ => True) (.slice A' (l.length + 1) c') (insL l i x) ∧ w.grownBy w' (Value.slice A l.length c).ownBlock ∧ ((Value.slice A' (l.length + 1) c').ownBlock = (Value.slice A l.length c).ownBlock ∨ ∃ b, (Value.slice A' (l.length + 1) c').ownBlock = some b ∧ w.heap.size ≤ b) := by
  rcases Nat.lt_or_ge i l.length with h1 | h1
  · rcases Nat.lt_or_ge c (l.length + 1) with h2 | h2
    · exact insert_grow base bv A c vb vc l x w h hv hb hl i h1 h2
    · exact insert_shift base bv A c vb vc l x w h hv hb hl hvb i h1 h2
  · have e : i = l.length := by omega
    subst e
    exact insert_end base bv A c vb vc l x w h hv hb hl
end Go.Proofs.Ytgbfhhmmkhjhhaa.Roads
