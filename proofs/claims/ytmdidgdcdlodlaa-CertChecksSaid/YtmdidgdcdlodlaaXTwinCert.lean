/- The copy of a certificate, with the marks behind its lists. Conditions: those that stand in the theorem. Written by wip/gen/twincert.py. -/
import Derived.Test.YtmdidgdcdlodlaaA3
namespace Go.Proofs.Ytmdidgdcdlodlaa.Q
open Go.RowKit Go.Proofs.YtmdidgdcdlodlaaW.PrintWords Go.Proofs.YtmdidgdcdlodlaaW.PrintLast Go.Proofs.YtmdidgdcdlodlaaW.PrintMore
set_option linter.unusedVariables false
set_option linter.unusedSimpArgs false
def cabstandlaw01_TwinCert.T1 : Bool × List (List Nat × List Nat) := (true, [([], []), ([0], [0]), ([1], [1]), ([], []), ([3], [3]), ([4, 2], [4]), ([], []), ([6], [6]), ([7, 5], [7]), ([2, 5, 8], [2, 5, 8]), ([9, 8, 0, 1, 2, 3, 4, 5, 6, 7, 8, 9], [9])])
def cabstandlaw01_TwinCert.B1 : List Nat := [0, 1, 3, 0, 8, 31, 0, 64, 255, 511, 1023]
theorem cabstandlaw01_TwinCert.tab1 : rtab .any (opsOf Try.f12 1) = cabstandlaw01_TwinCert.T1 := by kernel_rfl
theorem cabstandlaw01_TwinCert.bits1 : waitsOk cabstandlaw01_TwinCert.T1.2 cabstandlaw01_TwinCert.B1 = true := by kernel_rfl
theorem Marked.blk {α : Type} {d : Kd α} {ty : Nat} {w : World} {base go co : Nat} {l : List α} {m : α} (h : Marked d ty w base go co l m) : go < w.heap.size := by
  obtain ⟨⟨y, h1, h2, h3⟩, h4⟩ := h
  have h5 := (List.getElem?_eq_some_iff.1 h3).1
  exact Kd.R_lt h1 go (by simp [Value.ownBlock])
set_option maxHeartbeats 8000000 in
set_option maxRecDepth 100000 in
theorem twinCert_calls (ps : List S50) (ys zs : List Int) (A0 A1 A2 : Option Addr) (c0 c1 c2 : Nat) (w : World)
    (hr0 : Kd.C k50 w A0 ps.length ps) (hc0 : ps.length ≤ c0) (hr1 : Kd.C (Kd.int .i64) w A1 ys.length ys) (hc1 : ys.length ≤ c1) (hr2 : Kd.C (Kd.int .i64) w A2 zs.length zs) (hc2 : zs.length ≤ c2) (hl0 : ps.length ≤ 1048576) (hl1 : ys.length ≤ 1048576) (hl2 : zs.length ≤ 1048576) :
    Calls Try.prog 12 #[.agg #[.slice A0 ps.length c0, .slice A1 ys.length c1, .slice A2 zs.length c2]] w fun e w' => ∃ gP cP gY cY gZ cZ, e = .returned (.agg #[.slice (some ⟨gP, 0, none⟩) ps.length cP, .slice (some ⟨gY, 0, none⟩) ys.length cY, .slice (some ⟨gZ, 0, none⟩) zs.length cZ]) ∧ MPairs w' w.heap.size gP cP ps ∧ MInts w' w.heap.size gY cY ys ∧ MInts w' w.heap.size gZ cZ zs ∧ (gP ≠ gY ∧ gP ≠ gZ ∧ gY ≠ gZ) ∧ Below w.heap.size w w' := by
  have HR0 := Aside0.mk hr0
  have HR1 := Aside0.mk hr1
  have HR2 := Aside0.mk hr2
  have HC0 := Aside0.mk hc0
  have HC1 := Aside0.mk hc1
  have HC2 := Aside0.mk hc2
  have HL0 := Aside0.mk hl0
  have HL1 := Aside0.mk hl1
  have HL2 := Aside0.mk hl2
  clear hr0 hr1 hr2 hc0 hc1 hc2 hl0 hl1 hl2
  go_enter Try.func12, Try.ntmps12
  go_wp2_with fail
  have hba := below_step (below_new w (.cells #[.slice A0 ps.length c0, .slice A1 ys.length c1, .slice A2 zs.length c2] 28)) (below_new _ (.cells #[.slice none 0 0, .slice none 0 0, .slice none 0 0] 28))
  have ka := blk_alloc (blk_new w (.cells #[.slice A0 ps.length c0, .slice A1 ys.length c1, .slice A2 zs.length c2] 28)) (.cells #[.slice none 0 0, .slice none 0 0, .slice none 0 0] 28)
  have kb := blk_new (w.alloc (.cells #[.slice A0 ps.length c0, .slice A1 ys.length c1, .slice A2 zs.length c2] 28)) (.cells #[.slice none 0 0, .slice none 0 0, .slice none 0 0] 28)
  rw [World.size_alloc] at kb
  have hs : w.heap.size + 2 = ((w.alloc (.cells #[.slice A0 ps.length c0, .slice A1 ys.length c1, .slice A2 zs.length c2] 28)).alloc (.cells #[.slice none 0 0, .slice none 0 0, .slice none 0 0] 28)).heap.size := by rw [World.size_alloc, World.size_alloc]
  have HS1 : Aside0 (w.heap.size + 2 ≤ ((w.alloc (.cells #[.slice A0 ps.length c0, .slice A1 ys.length c1, .slice A2 zs.length c2] 28)).alloc (.cells #[.slice none 0 0, .slice none 0 0, .slice none 0 0] 28)).drew.heap.size) := ⟨Nat.le_of_eq hs⟩
  have HB1 := Aside0.mk (below_drew1 hba)
  have KA1 := Aside0.mk (blk_drew ka)
  have KB1 := Aside0.mk (blk_drew kb)
  clear hba ka kb hs
  refine start_ (n := 11) (S := fun w' => w'.cell? ⟨w.heap.size, 0, none⟩ = some (.slice A0 ps.length c0) ∧ w'.cell? ⟨w.heap.size, 1, none⟩ = some (.slice A1 ys.length c1) ∧ w'.cell? ⟨w.heap.size, 2, none⟩ = some (.slice A2 zs.length c2)) (ds := []) #[false, false, false, false, false, false, false, false, false, false, false] (by kernel_rfl) rfl rfl ⟨(blk_cell KA1.out 0).trans rfl, (blk_cell KA1.out 1).trans rfl, (blk_cell KA1.out 2).trans rfl⟩ (fun hHeld => ?_)
  refine with_tabW cabstandlaw01_TwinCert.tab1 cabstandlaw01_TwinCert.bits1 (fun HT_ HW_ => ?_)
  generalize ((w.alloc (.cells #[.slice A0 ps.length c0, .slice A1 ys.length c1, .slice A2 zs.length c2] 28)).alloc (.cells #[.slice none 0 0, .slice none 0 0, .slice none 0 0] 28)).drew = w1 at HB1 KA1 KB1 HS1 hHeld ⊢
  refine pure_ (i := 0) (N := some 3) (v := ?_) (a' := ?_) #[true, false, false, false, false, false, false, false, false, false, false] rfl rfl (any_of HT_.out (by kernel_rfl)) (fun _ _ _ h => h) (Or.inl ⟨by rfl, ?_⟩) ?_ ?_
  rotate_left
  · intro w'
    go_simp
    with_reducible rfl
  rotate_left
  · simp only [Act.put, List.setIfInBounds_toArray, List.set_cons_zero, List.set_cons_succ, i64_w, i32_w]
    rfl
  refine pure_ (i := 3) (N := some 6) (v := ?_) (a' := ?_) #[true, false, false, true, false, false, false, false, false, false, false] rfl rfl (any_of HT_.out (by kernel_rfl)) (fun _ _ _ h => h) (Or.inl ⟨by rfl, ?_⟩) ?_ ?_
  rotate_left
  · intro w'
    go_simp
    with_reducible rfl
  rotate_left
  · simp only [Act.put, List.setIfInBounds_toArray, List.set_cons_zero, List.set_cons_succ, i64_w, i32_w]
    rfl
  refine pure_ (i := 6) (N := some 9) (v := ?_) (a' := ?_) #[true, false, false, true, false, false, true, false, false, false, false] rfl rfl (any_of HT_.out (by kernel_rfl)) (fun _ _ _ h => h) (Or.inl ⟨by rfl, ?_⟩) ?_ ?_
  rotate_left
  · intro w'
    go_simp
    with_reducible rfl
  rotate_left
  · simp only [Act.put, List.setIfInBounds_toArray, List.set_cons_zero, List.set_cons_succ, i64_w, i32_w]
    rfl
  refine take_ (i := 1) (N := some 4) (v := ?_) (a' := ?_) #[true, true, false, true, false, false, true, false, false, false, false] rfl rfl (take_ofW HT_.out HW_.out (by kernel_rfl)) (fun _ _ _ h => h) (Or.inl ⟨by rfl, ?_⟩) hHeld ?_ ?_
  rotate_left
  · rintro w' ⟨s0, s1, s2⟩
    go_simp
    with_reducible rfl
  rotate_left
  · simp only [Act.put, List.setIfInBounds_toArray, List.set_cons_zero, List.set_cons_succ, i64_w, i32_w]
    rfl
  refine take_ (i := 4) (N := some 7) (v := ?_) (a' := ?_) #[true, true, false, true, true, false, true, false, false, false, false] rfl rfl (take_ofW HT_.out HW_.out (by kernel_rfl)) (fun _ _ _ h => h) (Or.inl ⟨by rfl, ?_⟩) hHeld ?_ ?_
  rotate_left
  · rintro w' ⟨s0, s1, s2⟩
    go_simp
    with_reducible rfl
  rotate_left
  · simp only [Act.put, List.setIfInBounds_toArray, List.set_cons_zero, List.set_cons_succ, i64_w, i32_w]
    rfl
  refine take_ (i := 7) (N := some 10) (v := ?_) (a' := ?_) #[true, true, false, true, true, false, true, true, false, false, false] rfl rfl (take_ofW HT_.out HW_.out (by kernel_rfl)) (fun _ _ _ h => h) (Or.inl ⟨by rfl, ?_⟩) hHeld ?_ ?_
  rotate_left
  · rintro w' ⟨s0, s1, s2⟩
    go_simp
    with_reducible rfl
  rotate_left
  · simp only [Act.put, List.setIfInBounds_toArray, List.set_cons_zero, List.set_cons_succ, i64_w, i32_w]
    rfl
  refine one_ (i := 2) (N := some 5) #[true, true, true, true, true, false, true, true, false, false, false] rfl rfl (one_of HT_.out (by kernel_rfl)) (by decide) (fun K hK => ?_)
  refine goes_ Try.func18 (by kernel_rfl) rfl #[.slice A0 ps.length c0] (by rfl) rfl rfl (by (try simp only [List.map_toArray, List.map_cons, List.map_nil]); first | done | rfl) ?_
  refine (twinPairs_calls A0 c0 ps w1 (Kd.C_below HR0.out HB1.out) HC0.out HL0.out).mono ?_
  rintro e w2 ⟨gP, cP, rfl, hm, hb⟩
  refine ⟨_, rfl, ?_⟩
  have HB2 := Aside0.mk (below_step HB1.out hb)
  have KA2 := Aside0.mk ((hb.block _ (blk_lt KA1.out)).trans KA1.out)
  have KB2 := Aside0.mk ((hb.block _ (blk_lt KB1.out)).trans KB1.out)
  have HS2 := Aside0.mk (Nat.le_trans HS1.out hb.size)
  have HGP : Aside0 (w1.heap.size ≤ gP) := ⟨hm.ge⟩
  have HMP2 : Aside0 (MPairs w2 (w.heap.size + 2) gP cP ps) := ⟨hm.lower HS1.out⟩
  clear hb hm HB1 KA1 KB1 HS1 
  refine hK.out _ _ ⟨(blk_cell KA2.out 0).trans rfl, (blk_cell KA2.out 1).trans rfl, (blk_cell KA2.out 2).trans rfl⟩ (fun hHeld => ?_)
  clear hK K
  refine norm_ (a' := ?_) ?_ ?_
  rotate_left
  · show Act.put _ (some 5) _ = _
    simp only [Act.put, List.setIfInBounds_toArray, List.set_cons_zero, List.set_cons_succ, i64_w, i32_w]
    rfl
  refine one_ (i := 5) (N := some 8) #[true, true, true, true, true, true, true, true, false, false, false] rfl rfl (one_of HT_.out (by kernel_rfl)) (by decide) (fun K hK => ?_)
  refine goes_ Try.func22 (by kernel_rfl) rfl #[.slice A1 ys.length c1] (by rfl) rfl rfl (by (try simp only [List.map_toArray, List.map_cons, List.map_nil]); first | done | rfl) ?_
  refine (twinInts_calls A1 c1 ys w2 (Kd.C_below HR1.out HB2.out) HC1.out HL1.out).mono ?_
  rintro e w3 ⟨gY, cY, rfl, hm, hb⟩
  refine ⟨_, rfl, ?_⟩
  have HB3 := Aside0.mk (below_step HB2.out hb)
  have KA3 := Aside0.mk ((hb.block _ (blk_lt KA2.out)).trans KA2.out)
  have KB3 := Aside0.mk ((hb.block _ (blk_lt KB2.out)).trans KB2.out)
  have HS3 := Aside0.mk (Nat.le_trans HS2.out hb.size)
  have HGY : Aside0 (w2.heap.size ≤ gY) := ⟨hm.ge⟩
  have HMP3 := Aside0.mk (HMP2.out.below hb)
  have HLPY : Aside0 (gP < gY) := ⟨by have h1 := HMP2.out.blk; have h2 := hm.ge; omega⟩
  have HMY3 : Aside0 (MInts w3 (w.heap.size + 2) gY cY ys) := ⟨hm.lower HS2.out⟩
  clear hb hm HB2 KA2 KB2 HS2 HMP2
  refine hK.out _ _ ⟨(blk_cell KA3.out 0).trans rfl, (blk_cell KA3.out 1).trans rfl, (blk_cell KA3.out 2).trans rfl⟩ (fun hHeld => ?_)
  clear hK K
  refine norm_ (a' := ?_) ?_ ?_
  rotate_left
  · show Act.put _ (some 8) _ = _
    simp only [Act.put, List.setIfInBounds_toArray, List.set_cons_zero, List.set_cons_succ, i64_w, i32_w]
    rfl
  refine one_ (i := 8) (N := some 11) #[true, true, true, true, true, true, true, true, true, false, false] rfl rfl (one_of HT_.out (by kernel_rfl)) (by decide) (fun K hK => ?_)
  refine goes_ Try.func22 (by kernel_rfl) rfl #[.slice A2 zs.length c2] (by rfl) rfl rfl (by (try simp only [List.map_toArray, List.map_cons, List.map_nil]); first | done | rfl) ?_
  refine (twinInts_calls A2 c2 zs w3 (Kd.C_below HR2.out HB3.out) HC2.out HL2.out).mono ?_
  rintro e w4 ⟨gZ, cZ, rfl, hm, hb⟩
  refine ⟨_, rfl, ?_⟩
  have HB4 := Aside0.mk (below_step HB3.out hb)
  have KA4 := Aside0.mk ((hb.block _ (blk_lt KA3.out)).trans KA3.out)
  have KB4 := Aside0.mk ((hb.block _ (blk_lt KB3.out)).trans KB3.out)
  have HS4 := Aside0.mk (Nat.le_trans HS3.out hb.size)
  have HGZ : Aside0 (w3.heap.size ≤ gZ) := ⟨hm.ge⟩
  have HMP4 := Aside0.mk (HMP3.out.below hb)
  have HLPZ : Aside0 (gP < gZ) := ⟨by have h1 := HMP3.out.blk; have h2 := hm.ge; omega⟩
  have HMY4 := Aside0.mk (HMY3.out.below hb)
  have HLYZ : Aside0 (gY < gZ) := ⟨by have h1 := HMY3.out.blk; have h2 := hm.ge; omega⟩
  have HMZ4 : Aside0 (MInts w4 (w.heap.size + 2) gZ cZ zs) := ⟨hm.lower HS3.out⟩
  clear hb hm HB3 KA3 KB3 HS3 HMP3 HMY3
  refine hK.out _ _ ⟨(blk_cell KA4.out 0).trans rfl, (blk_cell KA4.out 1).trans rfl, (blk_cell KA4.out 2).trans rfl⟩ (fun hHeld => ?_)
  clear hK K
  refine norm_ (a' := ?_) ?_ ?_
  rotate_left
  · show Act.put _ (some 11) _ = _
    simp only [Act.put, List.setIfInBounds_toArray, List.set_cons_zero, List.set_cons_succ, i64_w, i32_w]
    rfl
  refine pure_ (i := 9) (N := some 12) (v := ?_) (a' := ?_) #[true, true, true, true, true, true, true, true, true, true, false] rfl rfl (any_of HT_.out (by kernel_rfl)) (fun _ _ _ h => h) (Or.inl ⟨by rfl, ?_⟩) ?_ ?_
  rotate_left
  · intro w'
    go_simp
    with_reducible rfl
  rotate_left
  · simp only [Act.put, List.setIfInBounds_toArray, List.set_cons_zero, List.set_cons_succ, i64_w, i32_w]
    rfl
  have rc0 : w4.cell? ⟨w.heap.size + 1, 0, none⟩ = some (.slice none 0 0) := (blk_cell KB4.out 0).trans rfl
  have rf0 := blk_frozen KB4.out 0
  have rc1 : w4.cell? ⟨w.heap.size + 1, 1, none⟩ = some (.slice none 0 0) := (blk_cell KB4.out 1).trans rfl
  have rf1 := blk_frozen KB4.out 1
  have rc2 : w4.cell? ⟨w.heap.size + 1, 2, none⟩ = some (.slice none 0 0) := (blk_cell KB4.out 2).trans rfl
  have rf2 := blk_frozen KB4.out 2
  refine one_ (i := 10) (N := none) #[true, true, true, true, true, true, true, true, true, true, true] rfl rfl (one_of HT_.out (by kernel_rfl)) (by decide) (fun K hK => ?_)
  refine skip_ (w1 := ?_) (by rfl) rfl ?_ ?_
  rotate_left
  · go_simp
    rfl
  have ka5 := (blk_far (blk_far (blk_far KA4.out (p := ⟨w.heap.size + 1, 0, none⟩) (by show w.heap.size ≠ w.heap.size + 1; omega) (.slice (some ⟨gP, 0, none⟩) ps.length cP)) (p := ⟨w.heap.size + 1, 1, none⟩) (by show w.heap.size ≠ w.heap.size + 1; omega) (.slice (some ⟨gY, 0, none⟩) ys.length cY)) (p := ⟨w.heap.size + 1, 2, none⟩) (by show w.heap.size ≠ w.heap.size + 1; omega) (.slice (some ⟨gZ, 0, none⟩) zs.length cZ))
  refine hK.out _ _ ⟨(blk_cell ka5 0).trans rfl, (blk_cell ka5 1).trans rfl, (blk_cell ka5 2).trans rfl⟩ (fun hHeld => ?_)
  clear hK K ka5
  refine done_ (done_of HT_.out (by kernel_rfl)) ?_
  try go_wp2
  have b1 := blk_put KB4.out 0 (.slice (some ⟨gP, 0, none⟩) ps.length cP) rfl
  have b2 := blk_put b1 1 (.slice (some ⟨gY, 0, none⟩) ys.length cY) rfl
  have b3 := blk_put b2 2 (.slice (some ⟨gZ, 0, none⟩) zs.length cZ) rfl
  refine bodyPost_ret (results_cell_row rfl _ _ (w.heap.size + 1) 28 _ (0, 0) _ rfl b3 Try.underlying28 rfl (by kernel_rfl)) rfl ?_
  exact ⟨gP, cP, gY, cY, gZ, cZ, rfl, (HMP4.out.keep (fun k hk hl => (Below.heap_setCell _ _ _ k (by show k ≠ w.heap.size + 1; omega)).trans ((Below.heap_setCell _ _ _ k (by show k ≠ w.heap.size + 1; omega)).trans (Below.heap_setCell _ _ _ k (by show k ≠ w.heap.size + 1; omega))))).lower (by omega), (HMY4.out.keep (fun k hk hl => (Below.heap_setCell _ _ _ k (by show k ≠ w.heap.size + 1; omega)).trans ((Below.heap_setCell _ _ _ k (by show k ≠ w.heap.size + 1; omega)).trans (Below.heap_setCell _ _ _ k (by show k ≠ w.heap.size + 1; omega))))).lower (by omega), (HMZ4.out.keep (fun k hk hl => (Below.heap_setCell _ _ _ k (by show k ≠ w.heap.size + 1; omega)).trans ((Below.heap_setCell _ _ _ k (by show k ≠ w.heap.size + 1; omega)).trans (Below.heap_setCell _ _ _ k (by show k ≠ w.heap.size + 1; omega))))).lower (by omega), ⟨Nat.ne_of_lt HLPY.out, Nat.ne_of_lt HLPZ.out, Nat.ne_of_lt HLYZ.out⟩, below_set (below_set (below_set HB4.out (Nat.le_succ _)) (Nat.le_succ _)) (Nat.le_succ _)⟩
end Go.Proofs.Ytmdidgdcdlodlaa.Q
