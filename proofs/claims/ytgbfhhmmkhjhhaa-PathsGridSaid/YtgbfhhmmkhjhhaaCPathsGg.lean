/- Paths: the walk of PathsGrid. Conditions: those that stand in each theorem. Written by wip/gen/netlaws.py. -/
import Derived.Test.YtgbfhhmmkhjhhaaCPathsGr
import Derived.Test.YtgbfhhmmkhjhhaaCPathsQX
namespace Go.Proofs.Ytgbfhhmmkhjhhaa.Paths
open Go.RowKit Go.Proofs.YtgbfhhmmkhjhhaaW.PrintWords Go.Proofs.YtgbfhhmmkhjhhaaW.PrintLast Go.Proofs.YtgbfhhmmkhjhhaaW.PrintMore Go.Proofs.Ytgbfhhmmkhjhhaa.HeapW Go.Proofs.Ytgbfhhmmkhjhhaa.HeapP Go.Proofs.Ytgbfhhmmkhjhhaa.MapAt Go.Proofs.Ytgbfhhmmkhjhhaa.Dij
open Go.Proofs.Ytgbfhhmmkhjhhaa.HeapIR hiding It Pt kIt_K infoZ reps_single
open Go.Proofs.Ytgbfhhmmkhjhhaa.Roads (NetS outOf isN isN_iff isN_no nodeP roadP okP kPt kRd flat_keep Flat flatPt flatRd rd_at infoPtz infoRd kPt_mk reps_single kPt_K kRd_K)
set_option linter.unusedVariables false
set_option linter.unusedSimpArgs false
theorem WayR.lenG {n : Nat} {outf : Int → List Rd} (hN : Net n outf) {c : List Int} {u t : Int} {l : List Int} (h : WayR outf c t u l) (hd : DistTo n outf t c) (hu : 0 ≤ u ∧ u < n) : (l.length : Int) ≤ cv c u + 1 := by
  induction h with
  | stop => rw [hd.st]; simp
  | go hne h1 h2 h3 ih =>
    obtain ⟨x, hx, hC, rfl⟩ := h1
    have r := hN.road _ _ hu.1 hu.2 hx
    have := ih ⟨r.1, r.2.1⟩
    have := hC.2
    rw [List.length_cons]
    omega
theorem and_small (x : Int) (m : Nat) (hm : m ≤ 1023) : ∃ a : Nat, a ≤ m ∧ bits .and .i64 x (m : Int) = (a : Int) := by
  refine ⟨((BitVec.ofInt 64 x) &&& (BitVec.ofInt 64 (m : Int))).toNat, ?_, ?_⟩
  · rw [BitVec.toNat_and]
    refine Nat.le_trans Nat.and_le_right ?_
    rw [BitVec.toNat_ofInt]
    omega
  · have h : ((BitVec.ofInt 64 x) &&& (BitVec.ofInt 64 (m : Int))).toNat ≤ m := by
      rw [BitVec.toNat_and]
      refine Nat.le_trans Nat.and_le_right ?_
      rw [BitVec.toNat_ofInt]
      omega
    show IntKind.i64.wrap (((BitVec.ofInt 64 x) &&& (BitVec.ofInt 64 (m : Int))).toNat : Int) = _
    generalize ((BitVec.ofInt 64 x) &&& (BitVec.ofInt 64 (m : Int))).toNat = z at h ⊢
    unfold IntKind.wrap
    simp [IntKind.signed, IntKind.bits]
    omega
theorem far_mul (x y s : Nat) : max (((x * s : Nat) : Int) - ((y * s : Nat) : Int)) (((y * s : Nat) : Int) - ((x * s : Nat) : Int)) = ((((x : Int) - (y : Int)).natAbs * s : Nat) : Int) := by
  rcases Nat.le_total x y with h | h
  · obtain ⟨d, rfl⟩ := Nat.exists_eq_add_of_le h
    have e : (((x : Nat) : Int) - ((x + d : Nat) : Int)).natAbs = d := by omega
    rw [e, Nat.add_mul]
    omega
  · obtain ⟨d, rfl⟩ := Nat.exists_eq_add_of_le h
    have e : (((y + d : Nat) : Int) - ((y : Nat) : Int)).natAbs = d := by omega
    rw [e, Nat.add_mul]
    omega
theorem dist_grid (W s a b : Nat) : max ((gpt W s a).1 - (gpt W s b).1) ((gpt W s b).1 - (gpt W s a).1) + max ((gpt W s a).2 - (gpt W s b).2) ((gpt W s b).2 - (gpt W s a).2) = ((dM W s a b : Nat) : Int) := by
  unfold gpt dM
  rw [Nat.add_mul, Int.natCast_add, ← far_mul, ← far_mul]
theorem p16_gpt {W H s j : Nat} (hg : GridOk W H s) (hj : j < W * H) : P16 (gpt W s j).1 ∧ P16 (gpt W s j).2 := by
  have h1 := Nat.mod_lt j hg.gw
  have h2 : j / W < H := Nat.div_lt_of_lt_mul hj
  have h3 : j % W * s ≤ (W - 1) * s := Nat.mul_le_mul_right _ (by omega)
  have h4 : j / W * s ≤ (H - 1) * s := Nat.mul_le_mul_right _ (by omega)
  have h5 := hg.gx
  have h6 := hg.gy
  unfold P16 gpt
  simp only
  omega
set_option maxHeartbeats 16000000 in
set_option maxRecDepth 100000 in
theorem grid_walk (W0 H0 s0 a0 b0 : Int) (w : World) :
    Calls Try.prog 8 #[.int .i64 W0, .int .i64 H0, .int .i64 s0, .int .i64 a0, .int .i64 b0] w fun e w' => e = .returned (.bool true) ∧ Below w.heap.size w w' := by
  have qe := eql_ptr
  obtain ⟨wa, hwa, b1⟩ := and_small W0 7 (by decide)
  obtain ⟨ha, hha, b2⟩ := and_small H0 7 (by decide)
  obtain ⟨sa, hsa, b3⟩ := and_small s0 1023 (by decide)
  obtain ⟨aa, haa, b4⟩ := and_small a0 63 (by decide)
  obtain ⟨ba, hba, b5⟩ := and_small b0 63 (by decide)
  have b1 : bits .and .i64 W0 7 = (wa : Int) := b1
  have b2 : bits .and .i64 H0 7 = (ha : Int) := b2
  have b3 : bits .and .i64 s0 1023 = (sa : Int) := b3
  have b4 : bits .and .i64 a0 63 = (aa : Int) := b4
  have b5 : bits .and .i64 b0 63 = (ba : Int) := b5
  obtain ⟨W, hW⟩ : ∃ W, W = 1 + wa := ⟨_, rfl⟩
  obtain ⟨H, hH⟩ : ∃ H, H = 1 + ha := ⟨_, rfl⟩
  obtain ⟨s, hs⟩ : ∃ s, s = 1 + sa := ⟨_, rfl⟩
  have HWH : Aside0 ((1 ≤ W ∧ W ≤ 8) ∧ (1 ≤ H ∧ H ≤ 8) ∧ 1 ≤ s ∧ s ≤ 1024) := ⟨by omega⟩
  have HG : Aside0 (GridOk W H s) := ⟨by
    have h := HWH.out
    have h1 : W * H ≤ 8 * 8 := Nat.mul_le_mul h.1.2 h.2.1.2
    have h2 : (W - 1) * s ≤ 7 * 1024 := Nat.mul_le_mul (by omega) h.2.2.2
    have h3 : (H - 1) * s ≤ 7 * 1024 := Nat.mul_le_mul (by omega) h.2.2.2
    exact ⟨h.1.1, h.2.1.1, ⟨h.2.2.1, by omega⟩, by omega, by omega, by omega⟩⟩
  have k1 : wrap64 (1 + (wa : Int)) = (W : Int) := by rw [hW]; unfold wrap64; omega
  have k2 : wrap64 (1 + (ha : Int)) = (H : Int) := by rw [hH]; unfold wrap64; omega
  have k3 : wrap64 (1 + (sa : Int)) = (s : Int) := by rw [hs]; unfold wrap64; omega
  have HGC := Aside0.mk (grid_calls HG.out w)
  clear hwa hha hsa haa hba hW hH hs
  go_enter Try.func8, Try.ntmps8
  go_wp2_with (first | fail | ((with_reducible refine gate_upon ?_); go_simp))
  simp only [k1, k2, k3]
  refine HGC.out.mono ?_
  rintro e w1 ⟨g, F, out, rfl, hn, he, hb⟩
  obtain ⟨N, hN⟩ : ∃ N, N = W * H := ⟨_, rfl⟩
  have HN1 : Aside0 (NetS w1 w.heap.size g (gp W s N) out F) := ⟨by rw [hN]; exact hn⟩
  have HE : Aside0 (HasE out (EdN W H s (W * H))) := ⟨he⟩
  have HB1 := Aside0.mk hb
  have HON : Aside0 (out.length = N) := ⟨by have := HN1.out.len.1; rwa [gp_len] at this⟩
  have HNN : Aside0 (N = W * H ∧ 1 ≤ N ∧ N ≤ 4096) := ⟨hN, by rw [hN]; exact Nat.mul_pos HG.out.gw HG.out.gh, by rw [hN]; exact HG.out.gall⟩
  have HND : Aside0 (∀ W', Below w1.heap.size w1 W' → Calls Try.prog 12 #[.pointer (some ⟨g, 0, none⟩)] W' fun e w' => e = .returned (.int .i64 (N : Nat)) ∧ w' = W') := ⟨fun W' h => by
    have := (HN1.out.below h).nodes
    rwa [HON.out] at this⟩
  have m3 : (W : Int) * (H : Int) = (N : Int) := by rw [hN]; simp
  have HKN : Aside0 (wrap64 (N : Int) = (N : Int)) := ⟨by unfold wrap64; have := HNN.out; omega⟩
  have kn := HKN.out
  have dn : ((N : Int) != (N : Int)) = false := by simp
  have HNC := Aside0.mk (HND.out w1 (Below.refl _ _))
  clear hn he hb hN HGC k1 k2 k3 b1 b2 b3
  go_wp2_with (first | fail | ((with_reducible refine gate_upon ?_); go_simp))
  refine HNC.out.mono ?_
  rintro e w2 ⟨rfl, hw⟩
  have hw := hw.symm
  subst hw
  clear HNC
  go_wp2_with (first | fail | ((with_reducible refine gate_upon ?_); go_simp))
  refine (lives_calls w1).mono ?_
  rintro e w2 ⟨rfl, hb2⟩
  clear kn m3
  have HB2 := Aside0.mk (below_step HB1.out hb2)
  have HN2 := Aside0.mk (HN1.out.below hb2)
  have HNC := Aside0.mk (HND.out w2 hb2)
  have hnz : ¬ N = 0 := by have := HNN.out; omega
  obtain ⟨ai, hai⟩ : ∃ ai, ai = aa % N := ⟨_, rfl⟩
  obtain ⟨bi, hbi⟩ : ∃ bi, bi = ba % N := ⟨_, rfl⟩
  have t1 : Int.tmod (aa : Int) (N : Int) = (ai : Int) := by rw [hai]; rfl
  have t2 : Int.tmod (ba : Int) (N : Int) = (bi : Int) := by rw [hbi]; rfl
  have HAB : Aside0 (ai < N ∧ bi < N) := ⟨by rw [hai, hbi]; exact ⟨Nat.mod_lt _ (by have := HNN.out; omega), Nat.mod_lt _ (by have := HNN.out; omega)⟩⟩
  clear hb2 HN1 HB1 HND hai hbi
  go_wp2_with (first | fail | ((with_reducible refine gate_upon ?_); go_simp))
  refine HNC.out.mono ?_
  rintro e w3 ⟨rfl, hw⟩
  have hw := hw.symm
  subst hw
  go_wp2_with (first | fail | ((with_reducible refine gate_upon ?_); go_simp))
  refine HNC.out.mono ?_
  rintro e w3 ⟨rfl, hw⟩
  have hw := hw.symm
  subst hw
  clear HNC
  have HAT1 := Aside0.mk (at_calls HN2.out ai (p := gpt W s ai) (gp_get HAB.out.1))
  go_wp2_with (first | fail | ((with_reducible refine gate_upon ?_); go_simp))
  refine HAT1.out.mono ?_
  rintro e w3 ⟨rfl, hb3⟩
  have HN3 := Aside0.mk (HN2.out.below hb3)
  have HB3 := Aside0.mk (below_step HB2.out hb3)
  obtain ⟨p, hp⟩ : ∃ p, p = gpt W s ai := ⟨_, rfl⟩
  have HP := Aside0.mk hp
  rw [← hp]
  have HXA := Aside0.mk (blk_new w3 (.cells #[.int .i16 0, .int .i16 0] 59))
  clear hb3 hp HN2 HB2 HAT1 t1 t2 b4 b5
  go_wp2_with (first | fail | ((with_reducible refine gate_store (t := 59) (p := 13) (v := .tmp 68) rfl ?_); refine wpList_store_row rfl 59 (.tmp 13) (.tmp 68) rfl w3.heap.size #[.int .i16 p.1, .int .i16 p.2] rfl rfl _ _ HXA.out infoPt rfl (by simp [Value.oneCell']) ?_; have hs := chg_row (cs := #[.int .i16 p.1, .int .i16 p.2]) HXA.out; have HXB := Aside0.mk hs.1; have hbx := (Chg.of_below (F := (fun _ => False)) (below_alloc (Below.refl w3.heap.size w3) (.cells #[.int .i16 0, .int .i16 0] 59))).then hs.2 (fun i hi => Or.inr (Nat.le_of_eq (Eq.symm hi))); have HBB : Aside0 (Below w3.heap.size w3 ((w3.alloc (.cells #[.int .i16 0, .int .i16 0] 59)).setRow w3.heap.size #[.int .i16 p.1, .int .i16 p.2])) := ⟨hbx.below (Nat.le_refl _) (fun _ q => q.elim)⟩; clear hs hbx; generalize (w3.alloc (.cells #[.int .i16 0, .int .i16 0] 59)).setRow w3.heap.size #[.int .i16 p.1, .int .i16 p.2] = w4 at HXB HBB ⊢) | ((with_reducible refine gate_upon ?_); go_simp))
  have HN4 := Aside0.mk (HN3.out.below HBB.out)
  have HB4 := Aside0.mk (below_step HB3.out HBB.out)
  obtain ⟨gp1, hg1⟩ : ∃ gp1, gp1 = w3.heap.size := ⟨_, rfl⟩
  rw [← hg1] at HXB
  rw [← hg1]
  clear hg1 HXA HBB HN3 HB3
  refine (at_calls HN4.out bi (p := gpt W s bi) (gp_get HAB.out.2)).mono ?_
  rintro e w5 ⟨rfl, hb5⟩
  have HN5 := Aside0.mk (HN4.out.below hb5)
  have HB5 := Aside0.mk (below_step HB4.out hb5)
  have HX5 := Aside0.mk ((hb5.block _ (blk_lt HXB.out)).trans HXB.out)
  obtain ⟨q, hq⟩ : ∃ q, q = gpt W s bi := ⟨_, rfl⟩
  have HQ := Aside0.mk hq
  rw [← hq]
  have HXA := Aside0.mk (blk_new w5 (.cells #[.int .i16 0, .int .i16 0] 59))
  clear hb5 hq HN4 HB4 HXB
  go_wp2_with (first | fail | ((with_reducible refine gate_store (t := 59) (p := 15) (v := .tmp 74) rfl ?_); refine wpList_store_row rfl 59 (.tmp 15) (.tmp 74) rfl w5.heap.size #[.int .i16 q.1, .int .i16 q.2] rfl rfl _ _ HXA.out infoPt rfl (by simp [Value.oneCell']) ?_; have hs := chg_row (cs := #[.int .i16 q.1, .int .i16 q.2]) HXA.out; have HXC := Aside0.mk hs.1; have hbx := (Chg.of_below (F := (fun _ => False)) (below_alloc (Below.refl w5.heap.size w5) (.cells #[.int .i16 0, .int .i16 0] 59))).then hs.2 (fun i hi => Or.inr (Nat.le_of_eq (Eq.symm hi))); have HBB : Aside0 (Below w5.heap.size w5 ((w5.alloc (.cells #[.int .i16 0, .int .i16 0] 59)).setRow w5.heap.size #[.int .i16 q.1, .int .i16 q.2])) := ⟨hbx.below (Nat.le_refl _) (fun _ q => q.elim)⟩; clear hs hbx; generalize (w5.alloc (.cells #[.int .i16 0, .int .i16 0] 59)).setRow w5.heap.size #[.int .i16 q.1, .int .i16 q.2] = w6 at HXC HBB ⊢) | ((with_reducible refine gate_upon ?_); go_simp))
  have HN6 := Aside0.mk (HN5.out.below HBB.out)
  have HB6 := Aside0.mk (below_step HB5.out HBB.out)
  have HX6 := Aside0.mk ((HBB.out.block _ (blk_lt HX5.out)).trans HX5.out)
  obtain ⟨gp2, hg2⟩ : ∃ gp2, gp2 = w5.heap.size := ⟨_, rfl⟩
  rw [← hg2] at HXC
  rw [← hg2]
  clear hg2 HXA HBB HN5 HB5 HX5
  have HNT : Aside0 (Net (W * H) (outOf out)) := ⟨by
    have h1 := HN6.out.good
    rw [HON.out, HNN.out.1] at h1
    exact net_of h1 (by rw [HON.out, HNN.out.1])⟩
  refine (way_any HN6.out HB6.out.size (fr := (ai : Int)) (tv := (bi : Int)) (by rw [HON.out, isN_iff.2 ⟨by omega, by have := HAB.out; omega⟩, isN_iff.2 ⟨by omega, by have := HAB.out; omega⟩]; rfl)).mono ?_
  rintro e w7 ⟨c, hc, hb7, hcase⟩
  rw [HON.out, HNN.out.1] at hc
  have hce := DistTo.uniq HNT.out hc (grid_dist (by rw [HON.out, HNN.out.1]) HG.out.gw HG.out.gs.2 HE.out HNT.out (by rw [← HNN.out.1]; exact HAB.out.2))
  subst hce
  have hca := gridC_at (W := W) (H := H) (s := s) (t := bi) (v := ai) (by rw [← HNN.out.1]; exact HAB.out.1)
  rcases hcase with ⟨hz, _⟩ | ⟨_, gl, cl, l, rfl, hr, hw⟩
  · rw [hca] at hz
    omega
  have hgo := hw.goes hc
  have hev := goes_even (s := (s : Int)) (fun v r hr => by
    obtain ⟨_, u, _, hu⟩ := (HE.out v r).1 hr
    exact (ed_near (t := bi) HG.out.gw hu).1) hgo
  have hll := hgo.last.1
  have hdm := dM_most (W := W) (H := H) (s := s) (j := ai) (t := bi) HG.out.gw HG.out.gs.2 (by rw [← HNN.out.1]; exact HAB.out.1) (by rw [← HNN.out.1]; exact HAB.out.2)
  have hlen := WayR.lenG HNT.out hw hc ⟨by omega, by have := HAB.out; have := HNN.out.1; omega⟩
  rw [hca] at hev hlen
  rw [hca]
  obtain ⟨z, hz⟩ : ∃ z, z = dM W s ai bi := ⟨_, rfl⟩
  rw [← hz] at hev hlen hdm
  rw [← hz]
  obtain ⟨L, hL⟩ : ∃ L, L = l.length := ⟨_, rfl⟩
  rw [← hL] at hev hlen hll
  rw [← hL]
  obtain ⟨L1, hL1⟩ : ∃ L1, L = L1 + 1 := ⟨L - 1, by omega⟩
  have HZ : Aside0 (z = dM W s ai bi ∧ z ≤ 4294967296 ∧ L1 ≤ 4294967296) := ⟨hz, by have := HNN.out; omega, by have := HNN.out; omega⟩
  have m5 : (L1 : Int) * (s : Int) = (z : Int) := by rw [hev, hL1]; simp
  have HB7 := Aside0.mk (below_step HB6.out hb7)
  have HX7 := Aside0.mk ((hb7.block _ (blk_lt HX6.out)).trans HX6.out)
  have HY7 := Aside0.mk ((hb7.block _ (blk_lt HXC.out)).trans HXC.out)
  have x0 : w7.cell? ⟨gp1, 0, none⟩ = some (.int .i16 p.1) := (blk_cell HX7.out 0).trans rfl
  have x1 : w7.cell? ⟨gp1, 1, none⟩ = some (.int .i16 p.2) := (blk_cell HX7.out 1).trans rfl
  have y0 : w7.cell? ⟨gp2, 0, none⟩ = some (.int .i16 q.1) := (blk_cell HY7.out 0).trans rfl
  have y1 : w7.cell? ⟨gp2, 1, none⟩ = some (.int .i16 q.2) := (blk_cell HY7.out 1).trans rfl
  have HDI : Aside0 (Calls Try.prog 23 #[.agg #[.int .i16 p.1, .int .i16 p.2], .agg #[.int .i16 q.1, .int .i16 q.2]] w7 fun e w' => e = .returned (.int .i64 (z : Nat)) ∧ Below w7.heap.size w7 w') := ⟨by
    have hp := p16_gpt HG.out (j := ai) (by rw [← HNN.out.1]; exact HAB.out.1)
    have hq := p16_gpt HG.out (j := bi) (by rw [← HNN.out.1]; exact HAB.out.2)
    have h := dist_calls p q (by rw [HP.out, HQ.out]; exact ⟨hp.1, hq.1, hp.2, hq.2⟩) w7
    have e : max (p.1 - q.1) (q.1 - p.1) + max (p.2 - q.2) (q.2 - p.2) = (z : Int) := by rw [HP.out, HQ.out, HZ.out.1]; exact dist_grid W s ai bi
    rw [e] at h
    exact h⟩
  have HKL : Aside0 (wrap64 ((L : Int) - 1) = (L1 : Int)) := ⟨by unfold wrap64; have := HZ.out; omega⟩
  have HKZ : Aside0 (wrap64 (z : Int) = (z : Int)) := ⟨by unfold wrap64; have := HZ.out; omega⟩
  have ez : ((z : Int) == (z : Int)) = true := by simp
  clear hc hb7 hca hr hw hgo hev hll hdm hlen hz hL hL1 HN6 HX6 HXC HB6
  go_wp2_with (first | fail | ((with_reducible refine gate_upon ?_); go_simp))
  refine HDI.out.mono ?_
  rintro e w8 ⟨rfl, hb8⟩
  have HB8 := Aside0.mk (below_step HB7.out hb8)
  have kl := HKL.out
  have kz := HKZ.out
  clear hb8 x0 x1 y0 y1 HDI
  go_wp2_with (first | fail | ((with_reducible refine gate_upon ?_); go_simp))
  go_ret
  exact ⟨rfl, HB8.out⟩
end Go.Proofs.Ytgbfhhmmkhjhhaa.Paths
