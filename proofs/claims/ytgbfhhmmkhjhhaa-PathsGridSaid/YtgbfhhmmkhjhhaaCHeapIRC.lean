/- What a heap's methods do: HeapIR, put,new. Conditions: those that stand in each theorem. Written by wip/gen/heapg.py. -/
import Derived.Test.YtgbfhhmmkhjhhaaCHeapIRB
import Derived.Test.YtgbfhhmmkhjhhaaCSl
namespace Go.Proofs.Ytgbfhhmmkhjhhaa.HeapIR
open Go.RowKit Go.Proofs.YtgbfhhmmkhjhhaaW.PrintWords Go.Proofs.YtgbfhhmmkhjhhaaW.PrintLast Go.Proofs.YtgbfhhmmkhjhhaaW.PrintMore Go.Proofs.Ytgbfhhmmkhjhhaa.HeapW Go.Proofs.Ytgbfhhmmkhjhhaa.HeapP Go.Proofs.Ytgbfhhmmkhjhhaa.MapAt
set_option linter.unusedVariables false
set_option linter.unusedSimpArgs false
def put.T6 : Bool × List (List Nat × List Nat) := (true, [([], []), ([], []), ([], []), ([2], [2]), ([3], [3]), ([4], [4]), ([0, 1, 5], [0, 1, 5]), ([], []), ([7, 6, 0, 1, 2, 3, 4, 5, 6, 7], [6, 7])])
def put.B6 : List Nat := [0, 0, 0, 4, 12, 28, 63, 0, 255]
theorem put.tab6 : rtab .any (opsOf Try.f37 6) = put.T6 := by kernel_rfl
theorem put.bits6 : waitsOk put.T6.2 put.B6 = true := by kernel_rfl
def put.T9 : Bool × List (List Nat × List Nat) := (true, [([], []), ([0], [0]), ([1], [1]), ([2], [2]), ([], []), ([], []), ([3, 4, 0, 1, 2, 3, 4, 5], [3, 4]), ([6, 5, 0, 1, 2, 3, 4, 5], [5, 6])])
def put.B9 : List Nat := [0, 1, 3, 7, 0, 0, 63, 127]
theorem put.tab9 : rtab .any (opsOf Try.f37 9) = put.T9 := by kernel_rfl
theorem put.bits9 : waitsOk put.T9.2 put.B9 = true := by kernel_rfl
def put.T11 : Bool × List (List Nat × List Nat) := (true, [([], []), ([], []), ([1], [1]), ([2], [2]), ([3], [3]), ([], []), ([5], [5]), ([4, 6], [4, 6]), ([0, 0, 1, 2, 3, 4, 5, 6, 7], [0]), ([8, 0, 1, 2, 3, 4, 5, 6, 7], [8]), ([9, 7, 7, 0, 1, 2, 3, 4, 5, 6, 7], [7, 9])])
def put.B11 : List Nat := [0, 0, 2, 6, 14, 0, 32, 126, 255, 511, 1023]
theorem put.tab11 : rtab .any (opsOf Try.f37 11) = put.T11 := by kernel_rfl
theorem put.bits11 : waitsOk put.T11.2 put.B11 = true := by kernel_rfl
set_option maxHeartbeats 8000000 in
set_option maxRecDepth 100000 in
theorem put_calls (base g f : Nat) (lt : Pt → Pt → Bool) (hlt : Less f lt) (A : Option Addr) (cap b : Nat) (l : List It) (c : Nat) (key : Kt) (rank : Pt) (w : World) (h : HAt w base g (.func (.func f) #[] #[]) A cap b l c) (hk : okK key) (hl : l.length < 4000000000000) (hc : c < 4000000000000) (hb : base ≤ w.heap.size) :
    Calls Try.prog 37 #[.pointer (some ⟨g, 0, none⟩), .int .i64 key, .agg #[.int .i64 rank.1, .int .i64 rank.2]] w fun e w' => e = .returned (.int .i64 0) ∧ ∃ A' cap', HAt w' base g (.func (.func f) #[] #[]) A' cap' b (putL lt l ((c : Int) + 1) key rank) ((c : Int) + 1) ∧ Chg (hfp g A b) w w' ∧ (∀ a, A' = some a → (∃ a0 : Addr, A = some a0 ∧ a.block = a0.block) ∨ w.heap.size ≤ a.block) := by
  have H := Aside0.mk h
  have HLT := Aside0.mk hlt
  have HK := Aside0.mk hk
  have HL := Aside0.mk hl
  have hcx : (c : Int) + 1 ≤ 9223372036854775807 := by omega
  have HC := Aside0.mk hc
  have HB := Aside0.mk hb
  have qm := eq_map
  have qf := eq_func
  clear h hlt hk hl hc hb
  go_enter Try.func37, Try.ntmps37
  go_upto_region 1 with (fail)
  have HB0 : Aside0 (Below w.heap.size w w) := ⟨Below.refl _ _⟩
  have HXgr : Aside0 ((w.alloc (.cells #[.int .i64 rank.1, .int .i64 rank.2] 83)).heap[w.heap.size]? = some (.cells #[.int .i64 rank.1, .int .i64 rank.2] 83 (0, 0))) := ⟨blk_new _ _⟩
  have hb0 : Below w.heap.size w (w.alloc (.cells #[.int .i64 rank.1, .int .i64 rank.2] 83)) := below_alloc (Below.refl _ _) _
  have HB1 := Aside0.mk (below_step HB0.out hb0)
  have HQ := Aside0.mk (H.out.below hb0)
  clear hb0 HB0
  have HSZ : Aside0 (w.heap.size ≤ w.heap.size ∧ True) := ⟨⟨Nat.le_refl _, trivial⟩⟩
  generalize (w.alloc (.cells #[.int .i64 rank.1, .int .i64 rank.2] 83)) = wB at HXgr HQ HB1 ⊢
  have HBB := HB1
  clear HB1
  have hc0 : wB.cell? ⟨g, 0, none⟩ = some (.func (.func f) #[] #[]) := (blk_cell HQ.out.blk 0).trans rfl
  have hc1 : wB.cell? ⟨g, 1, none⟩ = some (.slice A l.length cap) := (blk_cell HQ.out.blk 1).trans rfl
  have hc2 : wB.cell? ⟨g, 2, none⟩ = some (.map (some b)) := (blk_cell HQ.out.blk 2).trans rfl
  have hc3 : wB.cell? ⟨g, 3, none⟩ = some (.int .i64 c) := (blk_cell HQ.out.blk 3).trans rfl
  have hfz := blk_frozen HQ.out.blk 3
  go_upto_region 6 with (fail)
  have hcame := HQ.out.came ((c : Int) + 1)
  have HQ1 := Aside0.mk hcame.1
  have HC1 : Aside0 (Chg (hfp g A b) w _) := ⟨(Chg.of_below HBB.out).trans (Chg.keep hcame.2 (fun k hk _ => Or.inl hk))⟩
  have HGE : Aside0 (g < w.heap.size ∧ b < w.heap.size) := ⟨H.out.fp_lt g (Or.inl rfl), H.out.fp_lt b (Or.inr (Or.inl rfl))⟩
  have HXgr1 := Aside0.mk (hcame.2.heap HXgr.out (fun e => by have e' : w.heap.size = g := e; have := HGE.out; have := HSZ.out; omega))
  clear hc0 hc1 hc2 hc3 hfz qm qf hcame HQ HBB HXgr
  generalize wB.setCell ⟨g, 3, none⟩ (.int .i64 ((c : Int) + 1)) = w1 at HQ1 HC1 HXgr1 ⊢
  have HQ2 : Aside0 (HAt w1.drew base g (.func (.func f) #[] #[]) A cap b l ((c : Int) + 1)) := ⟨HQ1.out.below (below_drew1 (Below.refl _ _))⟩
  have HC2 : Aside0 (Chg (hfp g A b) w w1.drew) := ⟨HC1.out.trans (Chg.of_below (below_drew1 (Below.refl _ _)))⟩
  have HXgr2 : Aside0 (w1.drew.heap[w.heap.size]? = _) := ⟨HXgr1.out⟩
  clear HQ1 HC1 HXgr1
  refine start_ (n := 9) (S := fun w' => w'.cell? ⟨w.heap.size, 0, none⟩ = some (.int .i64 rank.1) ∧ w'.cell? ⟨w.heap.size, 1, none⟩ = some (.int .i64 rank.2) ∧ w'.cell? ⟨g, 3, none⟩ = some (.int .i64 ((c : Int) + 1))) (ds := [8]) #[ff,ff,ff,ff,ff,ff,ff,ff,ff] (by kernel_rfl) rfl rfl ⟨(blk_cell HXgr2.out 0).trans rfl, (blk_cell HXgr2.out 1).trans rfl, (blk_cell HQ2.out.blk 3).trans rfl⟩ (fun hHeld => ?_)
  refine with_tabW put.tab6 put.bits6 (fun HT_ HW_ => ?_)
  generalize w1.drew = w2 at HQ2 HC2 HXgr2 hHeld ⊢
  refine pure_ (i := 0) (N := some 31) (v := ?_) (a' := ?_) #[tt,ff,ff,ff,ff,ff,ff,ff,ff] rfl rfl (any_of HT_.out (by kernel_rfl)) (fun _ _ _ h => h) (Or.inl ⟨by rfl, ?_⟩) ?_ ?_
  rotate_left; exact slv; rotate_left; exact sla
  refine pure_ (i := 2) (N := some 33) (v := ?_) (a' := ?_) #[tt,ff,tt,ff,ff,ff,ff,ff,ff] rfl rfl (any_of HT_.out (by kernel_rfl)) (fun _ _ _ h => h) (Or.inl ⟨by rfl, ?_⟩) ?_ ?_
  rotate_left; exact slv; rotate_left; exact sla
  refine pure_ (i := 3) (N := some 34) (v := ?_) (a' := ?_) #[tt,ff,tt,tt,ff,ff,ff,ff,ff] rfl rfl (any_of HT_.out (by kernel_rfl)) (fun _ _ _ h => h) (Or.inl ⟨by rfl, ?_⟩) ?_ ?_
  rotate_left; exact slv; rotate_left; exact sla
  refine pure_ (i := 4) (N := some 35) (v := ?_) (a' := ?_) #[tt,ff,tt,tt,tt,ff,ff,ff,ff] rfl rfl (any_of HT_.out (by kernel_rfl)) (fun _ _ _ h => h) (Or.inl ⟨by rfl, ?_⟩) ?_ ?_
  rotate_left; exact slv; rotate_left; exact sla
  refine take_ (i := 1) (N := some 32) (v := ?_) (a' := ?_) #[tt,tt,tt,tt,tt,ff,ff,ff,ff] rfl rfl (take_ofW HT_.out HW_.out (by kernel_rfl)) (fun _ _ _ h => h) (Or.inl ⟨by rfl, ?_⟩) hHeld ?_ ?_
  rotate_left; exact slt3; rotate_left; exact sla
  refine take_ (i := 5) (N := some 36) (v := ?_) (a' := ?_) #[tt,tt,tt,tt,tt,tt,ff,ff,ff] rfl rfl (take_ofW HT_.out HW_.out (by kernel_rfl)) (fun _ _ _ h => h) (Or.inl ⟨by rfl, ?_⟩) hHeld ?_ ?_
  rotate_left; exact slt3; rotate_left; exact sla
  refine pure_ (i := 6) (N := some 37) (v := ?_) (a' := ?_) #[tt,tt,tt,tt,tt,tt,tt,ff,ff] rfl rfl (any_of HT_.out (by kernel_rfl)) (fun _ _ _ h => h) (Or.inl ⟨by rfl, ?_⟩) ?_ ?_
  rotate_left; exact slv; rotate_left; exact sla
  refine one_ (i := 7) (N := some 7) #[tt,tt,tt,tt,tt,tt,tt,tt,ff] rfl rfl (one_of HT_.out (by kernel_rfl)) (by decide) (fun K hK => ?_)
  refine value_ (v := .pointer (some ⟨w2.heap.size, 0, none⟩)) (w1 := w2.alloc (.cells #[.int .i64 0, .int .i64 0, .int .i64 0, .int .i64 0] 98)) (by rfl) rfl ?_ ?_
  · first | (go_simp; done) | (go_simp; rfl)
  have hbn := below_alloc (Below.refl w2.heap.size w2) (.cells #[.int .i64 0, .int .i64 0, .int .i64 0, .int .i64 0] 98)
  have HXX := Aside0.mk (blk_new w2 (.cells #[.int .i64 0, .int .i64 0, .int .i64 0, .int .i64 0] 98))
  have HQ3 := Aside0.mk (HQ2.out.below hbn)
  have HC3 := Aside0.mk (HC2.out.trans (Chg.of_below hbn))
  have HXgr3 := Aside0.mk ((hbn.block _ (blk_lt HXgr2.out)).trans HXgr2.out)
  have HGX : Aside0 (w.heap.size ≤ w2.heap.size) := ⟨HC2.out.size⟩
  have HNgr : Aside0 (w.heap.size < w2.heap.size) := ⟨blk_lt HXgr2.out⟩
  have HGN : Aside0 (∀ k, hfp g A b k → k < w2.heap.size) := ⟨HQ2.out.fp_lt⟩
  clear hbn HQ2 HC2 HXgr2
  generalize w2.alloc (.cells #[.int .i64 0, .int .i64 0, .int .i64 0, .int .i64 0] 98) = w3 at HXX HQ3 HC3 HXgr3 ⊢
  generalize w2.heap.size = gx at HXX HGX HGN HNgr ⊢
  refine hK.out _ _ ⟨(blk_cell HXgr3.out 0).trans rfl, (blk_cell HXgr3.out 1).trans rfl, (blk_cell HQ3.out.blk 3).trans rfl⟩ (fun hHeld => ?_)
  clear hK K
  refine norm_ (a' := ?_) ?_ ?_
  rotate_left
  · show Act.put _ (some 7) _ = _
    simp only [Act.put, List.setIfInBounds_toArray, List.set_cons_zero, List.set_cons_succ, i64_w, i32_w]
    rfl
  refine last_ (i := 8) (N := none) #[tt,tt,tt,tt,tt,tt,tt,tt,tt] rfl rfl (one_of HT_.out (by kernel_rfl)) (by decide) (fun K hK => ?_)
  refine rowstore_ (by rfl) rfl 98 (.tmp 7) (.tmp 37) rfl gx #[.int .i64 key, .int .i64 rank.1, .int .i64 rank.2, .int .i64 ((c : Int) + 1)] (by rfl) (by rfl) _ _ HXX.out infoIt rfl (by simp [Value.oneCell']) ?_
  have hs := chg_row (cs := #[.int .i64 key, .int .i64 rank.1, .int .i64 rank.2, .int .i64 ((c : Int) + 1)]) HXX.out
  have HX2 := Aside0.mk hs.1
  have hbn : Below gx w3 (w3.setRow gx #[.int .i64 key, .int .i64 rank.1, .int .i64 rank.2, .int .i64 ((c : Int) + 1)]) := hs.2.below (Nat.le_of_lt (blk_lt HXX.out)) (fun k hk => by have e : k = gx := hk; omega)
  have HQ4 := Aside0.mk (HQ3.out.below0 (fun k hk => hbn.block k (HGN.out k hk)))
  have HC4 := Aside0.mk (HC3.out.then hs.2 (fun k hk => Or.inr (by have e : k = gx := hk; have := HGX.out; omega)))
  have HXgr4 := Aside0.mk ((hbn.block _ HNgr.out).trans HXgr3.out)
  clear hs hbn HXX HQ3 HC3 HXgr3
  generalize w3.setRow gx #[.int .i64 key, .int .i64 rank.1, .int .i64 rank.2, .int .i64 ((c : Int) + 1)] = w4 at HX2 HQ4 HC4 HXgr4 ⊢
  refine hK.out _ _ ?_
  clear hK K
  refine done_ (done_of HT_.out (by kernel_rfl)) ?_
  try clear hHeld
  clear HXgr4
  have HX4 := HX2
  clear HX2
  go_upto_region 7 with (fail)
  have HQ5 := HQ4
  have HC5 := HC4
  have HX5 := HX4
  clear HQ4 HC4 HX4
  generalize w4 = w5 at HQ5 HC5 HX5 ⊢
  cases hidx : idxL l key with
  | some i =>
    have HIX := Aside0.mk hidx
    clear hidx
    have hm := HQ5.out.map.look keyLaw Try.underlying93 (zero_int w5) HK.out
    unfold encK at hm
    rw [HIX.out] at hm
    simp only [Option.getD_some, Option.isSome_some] at hm
    have hc2 : w5.cell? ⟨g, 2, none⟩ = some (.map (some b)) := (blk_cell HQ5.out.blk 2).trans rfl
    have hf1 := blk_frozen HQ5.out.blk 1
    have hc1 : w5.cell? ⟨g, 1, none⟩ = some (.slice A l.length cap) := (blk_cell HQ5.out.blk 1).trans rfl
    go_wp2_with fail
    obtain ⟨hi, hkey⟩ := idx_some HIX.out
    have HI := Aside0.mk hi
    have HKEY := Aside0.mk hkey
    obtain ⟨gl, hA⟩ := HQ5.out.some (by omega)
    have hil : (i : Int) < l.length := by omega
    have HA := Aside0.mk hA
    have HQ3 : Aside0 (HAt w5.drew base g (.func (.func f) #[] #[]) (some ⟨gl, 0, none⟩) cap b l ((c : Int) + 1)) := ⟨by rw [← HA.out]; exact HQ5.out.below (below_drew1 (Below.refl _ _))⟩
    have HC3 : Aside0 (Chg (hfp g (some ⟨gl, 0, none⟩) b) w w5.drew) := ⟨by rw [← HA.out]; exact HC5.out.trans (Chg.of_below (below_drew1 (Below.refl _ _)))⟩
    have HX3 : Aside0 (w5.drew.heap[gx]? = _) := ⟨HX5.out⟩
    clear hi hkey hA hm hc2 hc1 hf1 HQ5 HC5 HX5
    refine start_ (n := 8) (S := fun w' => w'.cell? ⟨g, 1, none⟩ = some (.slice (some ⟨gl, 0, none⟩) l.length cap) ∧ w'.cell? ⟨gx, 0, none⟩ = some (.int .i64 key) ∧ w'.cell? ⟨gx, 1, none⟩ = some (.int .i64 rank.1) ∧ w'.cell? ⟨gx, 2, none⟩ = some (.int .i64 rank.2) ∧ w'.cell? ⟨gx, 3, none⟩ = some (.int .i64 ((c : Int) + 1))) (ds := [7]) #[ff,ff,ff,ff,ff,ff,ff,ff] (by kernel_rfl) rfl rfl ⟨(blk_cell HQ3.out.blk 1).trans rfl, (blk_cell HX3.out 0).trans rfl, (blk_cell HX3.out 1).trans rfl, (blk_cell HX3.out 2).trans rfl, (blk_cell HX3.out 3).trans rfl⟩ (fun hHeld => ?_)
    refine with_tabW put.tab9 put.bits9 (fun HT_ HW_ => ?_)
    generalize w5.drew = w3 at HQ3 HC3 HX3 hHeld ⊢
    refine pure_ (i := 0) (N := some 48) (v := ?_) (a' := ?_) #[tt,ff,ff,ff,ff,ff,ff,ff] rfl rfl (any_of HT_.out (by kernel_rfl)) (fun _ _ _ h => h) (Or.inl ⟨by rfl, ?_⟩) ?_ ?_
    rotate_left; exact slv; rotate_left; exact sla
    refine pure_ (i := 1) (N := some 49) (v := ?_) (a' := ?_) #[tt,tt,ff,ff,ff,ff,ff,ff] rfl rfl (any_of HT_.out (by kernel_rfl)) (fun _ _ _ h => h) (Or.inl ⟨by rfl, ?_⟩) ?_ ?_
    rotate_left; exact slv; rotate_left; exact sla
    refine pure_ (i := 2) (N := some 50) (v := ?_) (a' := ?_) #[tt,tt,tt,ff,ff,ff,ff,ff] rfl rfl (any_of HT_.out (by kernel_rfl)) (fun _ _ _ h => h) (Or.inl ⟨by rfl, ?_⟩) ?_ ?_
    rotate_left; exact slv; rotate_left; exact sla
    refine pure_ (i := 4) (N := some 52) (v := ?_) (a' := ?_) #[tt,tt,tt,ff,tt,ff,ff,ff] rfl rfl (any_of HT_.out (by kernel_rfl)) (fun _ _ _ h => h) (Or.inl ⟨by rfl, ?_⟩) ?_ ?_
    rotate_left; exact slv; rotate_left; exact sla
    refine take_ (i := 3) (N := some 51) (v := ?_) (a' := ?_) #[tt,tt,tt,tt,tt,ff,ff,ff] rfl rfl (take_ofW HT_.out HW_.out (by kernel_rfl)) (fun _ _ _ h => h) (Or.inl ⟨by rfl, ?_⟩) hHeld ?_ ?_
    rotate_left; exact slt5; rotate_left; exact sla
    refine take_ (i := 5) (N := some 53) (v := ?_) (a' := ?_) #[tt,tt,tt,tt,tt,tt,ff,ff] rfl rfl (take_ofW HT_.out HW_.out (by kernel_rfl)) (fun _ _ _ h => h) (Or.inl ⟨by rfl, ?_⟩) hHeld ?_ ?_
    rotate_left; exact slt5; rotate_left; exact sla
    refine pure_ (i := 6) (N := some 54) (v := ?_) (a' := ?_) #[tt,tt,tt,tt,tt,tt,tt,ff] rfl rfl (any_of HT_.out (by kernel_rfl)) (fun _ _ _ h => h) (Or.inl ⟨by rfl, ?_⟩) ?_ ?_
    rotate_left; exact slv; rotate_left; exact sla
    refine last_ (i := 7) (N := none) #[tt,tt,tt,tt,tt,tt,tt,tt] rfl rfl (one_of HT_.out (by kernel_rfl)) (by decide) (fun K hK => ?_)
    refine itemstore_ (by rfl) rfl 98 (.tmp 54) (.tmp 53) rfl i (key, rank, (c : Int) + 1) (by rfl) (by rfl) infoIt HQ3.out.row HI.out ?_
    intro w4 hr hg
    have hq := HQ3.out.set HI.out (x := (key, rank, (c : Int) + 1)) HKEY.out hr hg
    have HQ4 := Aside0.mk hq.1
    have HC4 := Aside0.mk (HC3.out.trans hq.2)
    clear hr hg hq HQ3 HC3 HX3
    refine hK.out _ _ ?_
    clear hK K
    refine done_ (done_of HT_.out (by kernel_rfl)) ?_
    try clear hHeld
    go_wp2_with fail
    refine (up_calls base g f lt HLT.out _ _ b (l.set i (key, rank, (c : Int) + 1)) _ i w4 HQ4.out (by rw [List.length_set]; exact HI.out) (by rw [List.length_set]; have := HL.out; omega)).mono ?_
    rintro e wu ⟨rfl, hu, hcu⟩
    have HU := Aside0.mk hu
    have HCU := Aside0.mk (HC4.out.trans hcu)
    clear hu hcu
    go_wp2_with fail
    refine (down_calls base g f lt HLT.out _ _ b (upL lt i (l.set i (key, rank, (c : Int) + 1)) i).1 _ (upL lt i (l.set i (key, rank, (c : Int) + 1)) i).2 wu HU.out (by rw [upL_len]; exact Nat.lt_of_le_of_lt (upL_le lt _ _ _) (by rw [List.length_set]; exact HI.out)) (by rw [upL_len]; exact (by rw [List.length_set]; have := HL.out; omega))).mono ?_
    rintro e wd ⟨rfl, hd, hcd⟩
    have HD := Aside0.mk hd
    have HCD := Aside0.mk (HCU.out.trans hcd)
    clear hd hcd
    go_wp2
    go_ret
    have e1 : putL lt l ((c : Int) + 1) key rank = downL lt (upL lt i (l.set i (key, rank, (c : Int) + 1)) i).1.length (upL lt i (l.set i (key, rank, (c : Int) + 1)) i).1 (upL lt i (l.set i (key, rank, (c : Int) + 1)) i).2 := by
      rw [upL_len]
      unfold putL
      rw [HIX.out]
      rfl
    rw [e1]
    refine ⟨rfl, _, _, HD.out, ?_, fun a ha => Or.inl ?_⟩
    · rw [HA.out]; exact HCD.out
    · exact ⟨_, HA.out, by cases ha; rfl⟩
  | none =>
    have HIX := Aside0.mk hidx
    clear hidx
    have hm := HQ5.out.map.look keyLaw Try.underlying93 (zero_int w5) HK.out
    unfold encK at hm
    rw [HIX.out] at hm
    simp only [Option.getD_none, Option.isSome_none] at hm
    have hc2 : w5.cell? ⟨g, 2, none⟩ = some (.map (some b)) := (blk_cell HQ5.out.blk 2).trans rfl
    have hf1 := blk_frozen HQ5.out.blk 1
    have hc1 : w5.cell? ⟨g, 1, none⟩ = some (.slice A l.length cap) := (blk_cell HQ5.out.blk 1).trans rfl
    go_wp2_with fail
    have HQ3 : Aside0 (HAt w5.drew base g (.func (.func f) #[] #[]) A cap b l ((c : Int) + 1)) := ⟨HQ5.out.below (below_drew1 (Below.refl _ _))⟩
    have HC3 : Aside0 (Chg (hfp g A b) w w5.drew) := ⟨HC5.out.trans (Chg.of_below (below_drew1 (Below.refl _ _)))⟩
    have HX3 : Aside0 (w5.drew.heap[gx]? = _) := ⟨HX5.out⟩
    clear hm hc2 hc1 hf1 HQ5 HC5 HX5
    refine start_ (n := 11) (S := fun w' => w'.cell? ⟨g, 1, none⟩ = some (.slice A l.length cap) ∧ w'.cell? ⟨gx, 0, none⟩ = some (.int .i64 key) ∧ w'.cell? ⟨gx, 1, none⟩ = some (.int .i64 rank.1) ∧ w'.cell? ⟨gx, 2, none⟩ = some (.int .i64 rank.2) ∧ w'.cell? ⟨gx, 3, none⟩ = some (.int .i64 ((c : Int) + 1))) (ds := [10]) #[ff,ff,ff,ff,ff,ff,ff,ff,ff,ff,ff] (by kernel_rfl) rfl rfl ⟨(blk_cell HQ3.out.blk 1).trans rfl, (blk_cell HX3.out 0).trans rfl, (blk_cell HX3.out 1).trans rfl, (blk_cell HX3.out 2).trans rfl, (blk_cell HX3.out 3).trans rfl⟩ (fun hHeld => ?_)
    refine with_tabW put.tab11 put.bits11 (fun HT_ HW_ => ?_)
    generalize w5.drew = w3 at HQ3 HC3 HX3 hHeld ⊢
    have HBB3 : Aside0 (Below base w w3) := ⟨HC3.out.below HB.out (H.out.fp_ge)⟩
    refine pure_ (i := 0) (N := some 60) (v := ?_) (a' := ?_) #[tt,ff,ff,ff,ff,ff,ff,ff,ff,ff,ff] rfl rfl (any_of HT_.out (by kernel_rfl)) (fun _ _ _ h => h) (Or.inl ⟨by rfl, ?_⟩) ?_ ?_
    rotate_left; exact slv; rotate_left; exact sla
    refine pure_ (i := 1) (N := some 61) (v := ?_) (a' := ?_) #[tt,tt,ff,ff,ff,ff,ff,ff,ff,ff,ff] rfl rfl (any_of HT_.out (by kernel_rfl)) (fun _ _ _ h => h) (Or.inl ⟨by rfl, ?_⟩) ?_ ?_
    rotate_left; exact slv; rotate_left; exact sla
    refine pure_ (i := 2) (N := some 62) (v := ?_) (a' := ?_) #[tt,tt,tt,ff,ff,ff,ff,ff,ff,ff,ff] rfl rfl (any_of HT_.out (by kernel_rfl)) (fun _ _ _ h => h) (Or.inl ⟨by rfl, ?_⟩) ?_ ?_
    rotate_left; exact slv; rotate_left; exact sla
    refine pure_ (i := 3) (N := some 63) (v := ?_) (a' := ?_) #[tt,tt,tt,tt,ff,ff,ff,ff,ff,ff,ff] rfl rfl (any_of HT_.out (by kernel_rfl)) (fun _ _ _ h => h) (Or.inl ⟨by rfl, ?_⟩) ?_ ?_
    rotate_left; exact slv; rotate_left; exact sla
    refine take_ (i := 4) (N := some 64) (v := ?_) (a' := ?_) #[tt,tt,tt,tt,tt,ff,ff,ff,ff,ff,ff] rfl rfl (take_ofW HT_.out HW_.out (by kernel_rfl)) (fun _ _ _ h => h) (Or.inl ⟨by rfl, ?_⟩) hHeld ?_ ?_
    rotate_left; exact slt5; rotate_left; exact sla
    refine take_ (i := 5) (N := some 65) (v := ?_) (a' := ?_) #[tt,tt,tt,tt,tt,tt,ff,ff,ff,ff,ff] rfl rfl (take_ofW HT_.out HW_.out (by kernel_rfl)) (fun _ _ _ h => h) (Or.inl ⟨by rfl, ?_⟩) hHeld ?_ ?_
    rotate_left; exact slt5; rotate_left; exact sla
    refine one_ (i := 6) (N := some 66) #[tt,tt,tt,tt,tt,tt,tt,ff,ff,ff,ff] rfl rfl (one_of HT_.out (by kernel_rfl)) (by decide) (fun K hK => ?_)
    refine Kd.R_lit_step kIt (w0 := w) base 98 ?hw (N := 66) ?hd (xs := [(key, rank, (c : Int) + 1)]) (inner := [.int .i64 key, .int .i64 rank.1, .int .i64 rank.2, .int .i64 ((c : Int) + 1)]) (ok := fun _ => True) (okp := fun _ => True) ?hr ?hp (fun _ hk => hk) trivial HBB3.out (Nat.le_trans HB.out HC3.out.size) (by simp) ?_
    case hw => rfl
    case hd => rfl
    case hr => first | (go_simp; done) | (go_simp; rfl)
    case hp => exact reps_single (kIt_mk _ _ _ (key, rank, (c : Int) + 1)) rfl
    intro v66 w4 ho hb hg_ hnew
    have hbb : Below w3.heap.size w3 w4 := ⟨hg_.os, hg_.tape, hg_.output, hg_.size, fun k hk => hg_.block k hk (by simp)⟩
    have HQ4 := Aside0.mk (HQ3.out.below hbb)
    have HC4 := Aside0.mk (HC3.out.trans (Chg.of_below hbb))
    have HX4 := Aside0.mk ((hbb.block _ (blk_lt HX3.out)).trans HX3.out)
    have HO4 := Aside0.mk ho
    have HBB4 := Aside0.mk hb
    obtain ⟨A8, c8, e8, hle8, hC8⟩ := Kd.R_reads ho
    subst e8
    have HC8 := Aside0.mk hC8
    clear ho hb hg_ hnew hbb HQ3 HC3 HX3 HBB3 hle8 hC8
    refine hK.out _ _ ⟨(blk_cell HQ4.out.blk 1).trans rfl, (blk_cell HX4.out 0).trans rfl, (blk_cell HX4.out 1).trans rfl, (blk_cell HX4.out 2).trans rfl, (blk_cell HX4.out 3).trans rfl⟩ (fun hHeld => ?_)
    clear hK K
    refine norm_ (a' := ?_) ?_ ?_
    rotate_left
    · show Act.put _ (some 66) _ = _
      simp only [Act.put, List.setIfInBounds_toArray, List.set_cons_zero, List.set_cons_succ, i64_w, i32_w]
      rfl
    refine one_ (i := 7) (N := some 67) #[tt,tt,tt,tt,tt,tt,tt,tt,ff,ff,ff] rfl rfl (one_of HT_.out (by kernel_rfl)) (by decide) (fun K hK => ?_)
    refine Kd.R_append_rows_step kIt (w0 := w) base ?hw (.tmp 64) (.tmp 66) 94 98 (.agg #[.int .i64 0, .int .i64 0, .int .i64 0, .int .i64 0]) 32 rfl Try.underlying94 infoZ rfl (by decide) (by omega) (.slice A l.length cap) l [(key, rank, (c : Int) + 1)] A8 1 c8 (fun _ => True) (fun _ => False) rfl rfl HQ4.out.row HC8.out (fun _ _ h => kIt_K h) (fun _ h => h.elim) (fun _ _ => trivial) HBB4.out (Nat.le_trans HB.out HC4.out.size) (by have := HL.out; omega) ?_
    case hw => rfl
    intro v67 w5' ho hb hg_ hat
    have HXN : Aside0 (∀ k, (Value.slice A l.length cap).ownBlock = some k → k < w.heap.size) := ⟨fun k hk => by
      obtain ⟨inner, hoo⟩ := Kd.R_own H.out.row
      exact own_lt hoo k hk⟩
    have HG5 := Aside0.mk (blk_grown HQ4.out.blk hg_ (Kd.R_ne HQ4.out.row HQ4.out.blk (by decide)))
    have HX5 := Aside0.mk (blk_grown HX4.out hg_ (fun e => by have := HXN.out _ e.symm; have := HGX.out; omega))
    have HM5 := Aside0.mk (HQ4.out.map.move (hg_.block b HQ4.out.map.lt (fun e => by
      obtain ⟨inner, hoo⟩ := Kd.R_own HQ4.out.row
      obtain ⟨cs, hcs⟩ := own_typed hoo b e.symm
      exact HQ4.out.map.ne hcs rfl)))
    have HC5 := Aside0.mk (HC4.out.trans (Chg.keep (Chg.of_grown hg_) (fun k hk _ => by
      cases A with
      | none => simp [Value.ownBlock] at hk
      | some a =>
        have e : k = a.block := by simpa [Value.ownBlock] using hk
        exact Or.inr (Or.inr ⟨a, rfl, e⟩))))
    obtain ⟨A9, c9, e9⟩ := Kd.R_slice ho
    subst e9
    have HO5 := Aside0.mk ho
    have HAT : Aside0 (∀ a, A9 = some a → (∃ a0 : Addr, A = some a0 ∧ a.block = a0.block) ∨ w.heap.size ≤ a.block) := ⟨fun a ha => by
      subst ha
      rcases hat with h1 | ⟨b1, h1, h2⟩
      · cases A with
        | none => simp [Value.ownBlock] at h1
        | some a0 =>
          left
          refine ⟨a0, rfl, ?_⟩
          simpa [Value.ownBlock] using h1
      · right
        have e : a.block = b1 := by simpa [Value.ownBlock] using h1
        have := HC4.out.size
        omega⟩
    clear ho hb hg_ hat HQ4 HC4 HX4 HO4 HBB4 HC8
    refine hK.out _ _ ⟨(blk_cell HG5.out 1).trans rfl, (blk_cell HX5.out 0).trans rfl, (blk_cell HX5.out 1).trans rfl, (blk_cell HX5.out 2).trans rfl, (blk_cell HX5.out 3).trans rfl⟩ (fun hHeld => ?_)
    clear hK K
    refine norm_ (a' := ?_) ?_ ?_
    rotate_left
    · show Act.put _ (some 67) _ = _
      simp only [Act.put, List.setIfInBounds_toArray, List.set_cons_zero, List.set_cons_succ, i64_w, i32_w]
      rfl
    refine pure_ (i := 8) (N := some 68) (v := ?_) (a' := ?_) #[tt,tt,tt,tt,tt,tt,tt,tt,tt,ff,ff] rfl rfl (any_of HT_.out (by kernel_rfl)) (fun _ _ _ h => h) (Or.inl ⟨by rfl, ?_⟩) ?_ ?_
    rotate_left; exact slv; rotate_left; exact sla
    refine pure_ (i := 9) (N := some 69) (v := ?_) (a' := ?_) #[tt,tt,tt,tt,tt,tt,tt,tt,tt,tt,ff] rfl rfl (any_of HT_.out (by kernel_rfl)) (fun _ _ _ h => h) (Or.inl ⟨by rfl, ?_⟩) ?_ ?_
    rotate_left; exact slv; rotate_left; exact sla
    refine last_ (i := 10) (N := none) #[tt,tt,tt,tt,tt,tt,tt,tt,tt,tt,tt] rfl rfl (one_of HT_.out (by kernel_rfl)) (by decide) (fun K hK => ?_)
    have hc1 : w5'.cell? ⟨g, 1, none⟩ = some (.slice A l.length cap) := (blk_cell HG5.out 1).trans rfl
    have hf1 := blk_frozen HG5.out 1
    refine skip_ (w1 := (w5'.setCell ⟨g, 1, none⟩ (.slice A9 (l ++ [(key, rank, (c : Int) + 1)]).length c9))) (by rfl) rfl ?_ ?_
    · first | (go_simp; done) | (go_simp; rfl)
    clear hc1 hf1
    have HG6 := Aside0.mk (blk_put HG5.out 1 (.slice A9 (l ++ [(key, rank, (c : Int) + 1)]).length c9) rfl)
    have HO6 := Aside0.mk (Kd.R_set HO5.out HG5.out (by decide) 1 (.slice A9 (l ++ [(key, rank, (c : Int) + 1)]).length c9))
    have HM6 : Aside0 (MapAt encK okK (w5'.setCell ⟨g, 1, none⟩ (.slice A9 (l ++ [(key, rank, (c : Int) + 1)]).length c9)) b (idxL l)) := ⟨HM5.out.move (Below.heap_setCell w5' _ _ _ (fun e => HM5.out.ne HG5.out e.symm))⟩
    have HC6 : Aside0 (Chg (hfp g A b) w (w5'.setCell ⟨g, 1, none⟩ (.slice A9 (l ++ [(key, rank, (c : Int) + 1)]).length c9))) := ⟨HC5.out.setCell (Or.inl (Or.inl rfl)) _⟩
    clear HG5 HO5 HM5 HC5 HX5
    generalize (w5'.setCell ⟨g, 1, none⟩ (.slice A9 (l ++ [(key, rank, (c : Int) + 1)]).length c9)) = w6 at HG6 HO6 HM6 HC6 ⊢
    refine hK.out _ _ ?_
    clear hK K
    refine done_ (done_of HT_.out (by kernel_rfl)) ?_
    try clear hHeld
    have hc2 : w6.cell? ⟨g, 2, none⟩ = some (.map (some b)) := (blk_cell HG6.out 2).trans rfl
    have HQ6 : Aside0 (∀ wz, MapAt encK okK wz b (upd (idxL l) key l.length) → w6.grownBy wz (some b) → HAt wz base g (.func (.func f) #[] #[]) A9 c9 b (l ++ [(key, rank, (c : Int) + 1)]) ((c : Int) + 1) ∧ Chg (hfp g A b) w wz) := ⟨fun wz hm hg => by
      have hne : some g ≠ some b := fun e => by cases e; exact HM6.out.ne HG6.out rfl
      have hx : idxL l ((key, rank, (c : Int) + 1) : It).1 = none := HIX.out
      refine ⟨⟨blk_grown HG6.out hg hne, Kd.R_mono (Kd.R_grown (Kd.R_bound HO6.out) hg (fun k hk e => by
        obtain ⟨_, _, _, q, _, cs, hcs⟩ := hk
        cases e
        exact HM6.out.ne hcs rfl)) (fun _ _ => True.intro), hm.congr (fun k _ => (idx_append H.out.keys hx k).symm), H.out.ge, keys_append H.out.keys hx, fun y hy => ?_⟩, HC6.out.trans (Chg.keep (Chg.of_grown hg) (fun k hk _ => by cases hk; exact Or.inr (Or.inl rfl)))⟩
      rcases List.mem_append.1 hy with q | q
      · exact H.out.okk y q
      · simp at q
        subst q
        exact HK.out⟩
    have HM6' := Aside0.mk HM6.out
    clear HG6 HO6 HC6 HM6
    go_wp2_with (first | (at_mapUpdate; refine wpList_mapPut rfl (.tmp 73) (.tmp 74) (.tmp 75) 93 3 rfl b (idxL l) key l.length keyLaw Try.underlying93 HM6'.out HK.out rfl rfl rfl ?_; intro w8 hm hg; have hq7 := HQ6.out w8 hm hg; have HQ8 := Aside0.mk hq7.1; have HC8 := Aside0.mk hq7.2; clear hm hg hq7 hc2 HQ6 HM6') | fail)
    have HFP : Aside0 (∀ i, hfp g A9 b i → hfp g A b i ∨ w.heap.size ≤ i) := ⟨fun i hi => by
      rcases hi with rfl | rfl | ⟨a, ha, rfl⟩
      · exact Or.inl (Or.inl rfl)
      · exact Or.inl (Or.inr (Or.inl rfl))
      · rcases HAT.out a ha with ⟨a0, e0, e1⟩ | e
        · exact Or.inl (Or.inr (Or.inr ⟨a0, e0, e1⟩))
        · exact Or.inr e⟩
    go_wp2_with fail
    refine (up_calls base g f lt HLT.out _ _ b (l ++ [(key, rank, (c : Int) + 1)]) _ l.length w8 HQ8.out (by simp) (by simp; have := HL.out; omega)).mono ?_
    rintro e wu ⟨rfl, hu, hcu⟩
    have HU := Aside0.mk hu
    have HCU := Aside0.mk (HC8.out.then hcu HFP.out)
    clear hu hcu
    go_wp2_with fail
    refine (down_calls base g f lt HLT.out _ _ b (upL lt l.length (l ++ [(key, rank, (c : Int) + 1)]) l.length).1 _ (upL lt l.length (l ++ [(key, rank, (c : Int) + 1)]) l.length).2 wu HU.out (by rw [upL_len]; exact Nat.lt_of_le_of_lt (upL_le lt _ _ _) (by simp)) (by rw [upL_len]; exact (by simp; have := HL.out; omega))).mono ?_
    rintro e wd ⟨rfl, hd, hcd⟩
    have HD := Aside0.mk hd
    have HCD := Aside0.mk (HCU.out.then hcd HFP.out)
    clear hd hcd
    go_wp2
    go_ret
    have e1 : putL lt l ((c : Int) + 1) key rank = downL lt (upL lt l.length (l ++ [(key, rank, (c : Int) + 1)]) l.length).1.length (upL lt l.length (l ++ [(key, rank, (c : Int) + 1)]) l.length).1 (upL lt l.length (l ++ [(key, rank, (c : Int) + 1)]) l.length).2 := by
      rw [upL_len]
      unfold putL
      rw [HIX.out]
      rfl
    rw [e1]
    exact ⟨rfl, _, _, HD.out, HCD.out, HAT.out⟩
set_option maxHeartbeats 8000000 in
set_option maxRecDepth 100000 in
theorem new_calls (f : Nat) (w : World) :
    Calls Try.prog 35 #[.func (.func f) #[] #[]] w fun e w' => ∃ g b, e = .returned (.pointer (some ⟨g, 0, none⟩)) ∧ HAt w' w.heap.size g (.func (.func f) #[] #[]) none 0 b [] 0 ∧ Below w.heap.size w w' := by
  have hmk : (Instr.makeMap 93 none).run Try.prog w = .ok (.map (some w.heap.size)) (w.alloc (.map #[] 0)) := rfl
  go_enter Try.func35, Try.ntmps35
  go_wp2
  go_ret
  have hb : Below w.heap.size w ((w.alloc (.map #[] 0)).alloc (.cells #[.func (.func f) #[] #[], .slice none 0 0, .map (some w.heap.size), .int .i64 0] 96)) := below_alloc (below_alloc (Below.refl _ _) _) _
  have hg : ((w.alloc (.map #[] 0)).alloc (.cells #[.func (.func f) #[] #[], .slice none 0 0, .map (some w.heap.size), .int .i64 0] 96)).heap[w.heap.size + 1]? = some (.cells #[.func (.func f) #[] #[], .slice none 0 0, .map (some w.heap.size), .int .i64 0] 96 (0, 0)) := by
    have := blk_new (w.alloc (.map #[] 0)) (.cells #[.func (.func f) #[] #[], .slice none 0 0, .map (some w.heap.size), .int .i64 0] 96)
    rwa [World.size_alloc] at this
  refine ⟨w.heap.size + 1, w.heap.size, rfl, ⟨hg, Kd.R_nil _ _ _ _ _, ?_, ⟨by omega, Nat.le_refl _⟩, by simp [Keys], by simp⟩, hb⟩
  refine (MapAt.none w encK okK).move ?_ |>.congr (fun k _ => rfl)
  exact (below_alloc (Below.refl (w.alloc (.map #[] 0)).heap.size _) _).block _ (by rw [World.size_alloc]; omega)
end Go.Proofs.Ytgbfhhmmkhjhhaa.HeapIR
