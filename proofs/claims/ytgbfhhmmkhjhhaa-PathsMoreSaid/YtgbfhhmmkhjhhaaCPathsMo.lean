/- Paths: the walk of PathsMore. Conditions: those that stand in each theorem. Written by wip/gen/netlaws.py. -/
import Derived.Test.YtgbfhhmmkhjhhaaCPathsD
import Derived.Test.YtgbfhhmmkhjhhaaCPathsQX
import Derived.Test.YtgbfhhmmkhjhhaaCSl
namespace Go.Proofs.Ytgbfhhmmkhjhhaa.Paths
open Go.RowKit Go.Proofs.YtgbfhhmmkhjhhaaW.PrintWords Go.Proofs.YtgbfhhmmkhjhhaaW.PrintLast Go.Proofs.YtgbfhhmmkhjhhaaW.PrintMore Go.Proofs.Ytgbfhhmmkhjhhaa.HeapW Go.Proofs.Ytgbfhhmmkhjhhaa.HeapP Go.Proofs.Ytgbfhhmmkhjhhaa.MapAt Go.Proofs.Ytgbfhhmmkhjhhaa.Dij
open Go.Proofs.Ytgbfhhmmkhjhhaa.HeapIR hiding It Pt kIt_K infoZ reps_single
open Go.Proofs.Ytgbfhhmmkhjhhaa.Roads (NetS outOf isN isN_iff isN_no nodeP roadP okP kPt kRd flat_keep Flat flatPt flatRd rd_at infoPtz infoRd kPt_mk reps_single kPt_K kRd_K)
set_option linter.unusedVariables false
set_option linter.unusedSimpArgs false
def more.T17 : Bool × List (List Nat × List Nat) := (true, [([], []), ([], []), ([1], [1]), ([0, 2], [0, 2]), ([3], [3]), ([4], [4]), ([5], [5]), ([6], [6]), ([6], [6]), ([7, 8, 6], [6, 7, 8]), ([9, 6], [6, 9]), ([10, 6], [6, 10]), ([6, 11], [6, 11]), ([12, 6], [12]), ([13], [13]), ([14, 13], [13, 14]), ([15, 13, 13], [13, 15]), ([16], [16]), ([16], [16]), ([18, 16], [16, 18]), ([17, 19, 16], [16, 17, 19]), ([20, 16], [16, 20]), ([16], [16]), ([22, 16], [16, 22]), ([21, 23, 16], [16, 21, 23]), ([16], [16]), ([16], [16]), ([25, 26, 16], [16, 25, 26]), ([27, 16], [16, 27]), ([24, 28, 16], [16, 24, 28]), ([16], [16]), ([29, 30, 16], [16, 29, 30]), ([16, 31, 13], [13, 16, 31]), ([13, 32], [13, 32])])
def more.B17 : List Nat := [0, 0, 2, 7, 15, 31, 63, 127, 127, 511, 1023, 2047, 4095, 8191, 16383, 32767, 65535, 131071, 131071, 393215, 1048575, 2097151, 131071, 4325375, 16777215, 131071, 131071, 100794367, 235012095, 536870911, 131071, 2147483647, 4294967295, 8589934591]
theorem more.tab17 : rtab .any (opsOf Try.f6 17) = more.T17 := by kernel_rfl
theorem more.bits17 : waitsOk more.T17.2 more.B17 = true := by kernel_rfl
def more.T18 : Bool × List (List Nat × List Nat) := (true, [([], []), ([], []), ([1], [1]), ([0, 2], [0, 2]), ([3], [3]), ([], []), ([5], [5]), ([4, 6], [4, 6]), ([], []), ([], []), ([8, 9], [8, 9]), ([10], [10]), ([7, 11], [7, 11]), ([12, 0, 1, 2, 3, 4, 5, 6, 7, 8, 9, 10, 11, 12], [12])])
def more.B18 : List Nat := [0, 0, 2, 7, 15, 0, 32, 127, 0, 0, 768, 1792, 4095, 8191]
theorem more.tab18 : rtab .any (opsOf Try.f6 18) = more.T18 := by kernel_rfl
theorem more.bits18 : waitsOk more.T18.2 more.B18 = true := by kernel_rfl
set_option maxHeartbeats 16000000 in
set_option maxRecDepth 100000 in
theorem more_walk (PA RA : Option Addr) (pc rc : Nat) (pl : List Roads.Pt) (rl : List Rd) (m1 m2 m3 s : Int) (w : World) (hP : Kd.C kPt w PA pl.length pl) (hR : Kd.C kRd w RA rl.length rl) (hp : ∀ p ∈ pl, okP p) (hpl : pl.length ≤ 100000000000000) (hrl : rl.length ≤ 5864062014634) :
    Calls Try.prog 6 #[.agg #[.slice PA pl.length pc, .slice RA rl.length rc], .agg #[.int .i64 m1, .int .i64 m2, .int .i64 m3], .int .i64 s] w fun e w' => e = .returned (.bool true) ∧ Below w.heap.size w w' := by
  have qe := eql_ptr
  obtain ⟨pn, hpn⟩ : ∃ pn, pn = pl.length := ⟨_, rfl⟩
  obtain ⟨rn, hrn⟩ : ∃ rn, rn = rl.length := ⟨_, rfl⟩
  have HB0 : Aside0 (Below w.heap.size w ((w.alloc (.cells #[.slice PA pn pc, .slice RA rn rc] 25)).alloc (.cells #[.int .i64 m1, .int .i64 m2, .int .i64 m3] 40))) := ⟨below_alloc (below_alloc (Below.refl _ _) _) _⟩
  have HLD := Aside0.mk (laid_calls PA RA pc rc pl rl ((w.alloc (.cells #[.slice PA pn pc, .slice RA rn rc] 25)).alloc (.cells #[.int .i64 m1, .int .i64 m2, .int .i64 m3] 40)) (Kd.C_below hP HB0.out) (Kd.C_below hR HB0.out) hp hpl hrl)
  rw [← hpn, ← hrn] at HLD
  rw [← hpn, ← hrn]
  have HT0 : Aside0 (((w.alloc (.cells #[.slice PA pn pc, .slice RA rn rc] 25)).alloc (.cells #[.int .i64 m1, .int .i64 m2, .int .i64 m3] 40)).heap[w.heap.size]? = some (.cells #[.slice PA pn pc, .slice RA rn rc] 25)) := ⟨blk_alloc (blk_new _ _) _⟩
  have HXm0 : Aside0 (((w.alloc (.cells #[.slice PA pn pc, .slice RA rn rc] 25)).alloc (.cells #[.int .i64 m1, .int .i64 m2, .int .i64 m3] 40)).heap[w.heap.size + 1]? = some (.cells #[.int .i64 m1, .int .i64 m2, .int .i64 m3] 40 (0, 0))) := ⟨by have h := blk_new (w.alloc (.cells #[.slice PA pn pc, .slice RA rn rc] 25)) (.cells #[.int .i64 m1, .int .i64 m2, .int .i64 m3] 40); rwa [World.size_alloc] at h⟩
  clear hP hR hp hpl hrl hpn hrn
  go_enter Try.func6, Try.ntmps6
  have hx0 : ((w.alloc (.cells #[.slice PA pn pc, .slice RA rn rc] 25)).alloc (.cells #[.int .i64 m1, .int .i64 m2, .int .i64 m3] 40)).cell? ⟨w.heap.size, 0, none⟩ = some (.slice PA pn pc) := (blk_cell HT0.out 0).trans rfl
  have hx1 : ((w.alloc (.cells #[.slice PA pn pc, .slice RA rn rc] 25)).alloc (.cells #[.int .i64 m1, .int .i64 m2, .int .i64 m3] 40)).cell? ⟨w.heap.size, 1, none⟩ = some (.slice RA rn rc) := (blk_cell HT0.out 1).trans rfl
  go_wp2_with fail
  refine HLD.out.mono ?_
  rintro e w1 ⟨g, F, ps, out, RB, rb, R, rfl, hbe, -⟩
  have HN1 := Aside0.mk (net_lower hbe.net HB0.out.size)
  have HB1 := Aside0.mk (below_step HB0.out hbe.below)
  have HFB : Aside0 (∀ k, F k → w.heap.size + 2 ≤ k) := ⟨fun k hk => by have h := (hbe.net.ge k hk).1; rw [World.size_alloc, World.size_alloc] at h; exact h⟩
  have HXm1 := Aside0.mk ((hbe.below.block _ (blk_lt HXm0.out)).trans HXm0.out)
  obtain ⟨pm, hpm⟩ : ∃ pm, pm = ps.length := ⟨_, rfl⟩
  obtain ⟨rm, hrm⟩ : ∃ rm, rm = R.length := ⟨_, rfl⟩
  rw [← hpm, ← hrm]
  have HXA := Aside0.mk (blk_new w1 (.cells #[.int .i64 0, .slice none 0 0] 28))
  clear hbe hpm hrm hx0 hx1 HLD HT0 HB0 HXm0
  go_wp2_with (first | ((with_reducible refine gate_store (t := 28) (p := 8) (v := .tmp 22) rfl ?_); refine wpList_store_row rfl 28 (.tmp 8) (.tmp 22) rfl w1.heap.size #[.int .i64 (pm : Nat), .slice RB rm rb] rfl rfl _ _ HXA.out infoNet rfl (by simp [Value.oneCell']) ?_; have hs := chg_row (cs := #[.int .i64 (pm : Nat), .slice RB rm rb]) HXA.out; have HXB := Aside0.mk hs.1; have hbx := (Chg.of_below (F := (fun _ => False)) (below_alloc (Below.refl w1.heap.size w1) (.cells #[.int .i64 0, .slice none 0 0] 28))).then hs.2 (fun i hi => Or.inr (Nat.le_of_eq (Eq.symm hi))); have HBB : Aside0 (Below w1.heap.size w1 ((w1.alloc (.cells #[.int .i64 0, .slice none 0 0] 28)).setRow w1.heap.size #[.int .i64 (pm : Nat), .slice RB rm rb])) := ⟨hbx.below (Nat.le_refl _) (fun _ q => q.elim)⟩; clear hs hbx; generalize (w1.alloc (.cells #[.int .i64 0, .slice none 0 0] 28)).setRow w1.heap.size #[.int .i64 (pm : Nat), .slice RB rm rb] = w2 at HXB HBB ⊢) | ((with_reducible refine gate_upon ?_); go_simp))
  refine (lives_calls _).mono ?_
  rintro e w3 ⟨rfl, hb3⟩
  have HN3 := Aside0.mk (HN1.out.below (below_step HBB.out hb3))
  have HB3 := Aside0.mk (below_step HB1.out (below_step HBB.out hb3))
  have HXm := Aside0.mk (((below_step HBB.out hb3).block _ (blk_lt HXm1.out)).trans HXm1.out)
  have HN0 : Aside0 (∀ k, F k → k < w3.heap.size) := ⟨fun k hk => (HN3.out.ge k hk).2⟩
  obtain ⟨n, hn⟩ : ∃ n, out.length = n := ⟨_, rfl⟩
  have HLN := Aside0.mk hn
  have HG : Aside0 (Roads.Good n out) := ⟨by rw [← hn]; exact HN3.out.good⟩
  have HN4 : Aside0 (n ≤ 4096) := ⟨by have := HN3.out.len; omega⟩
  clear hn hb3 HN1 HB1 HXA HXB HBB HXm1
  cases hv : isN out.length s with
  | false =>
   as_aux_lemma =>
    go_wp2_with (first | fail | ((with_reducible refine gate_upon ?_); go_simp))
    refine (from_gone HN3.out HB3.out.size hv).mono ?_
    rintro e w4 ⟨rfl, hb4⟩
    have HB4 := Aside0.mk (below_step HB3.out hb4)
    clear hb4
    go_wp2_with (first | fail | ((with_reducible refine gate_upon ?_); go_simp))
    go_ret
    exact ⟨rfl, HB4.out⟩
  | true =>
   as_aux_lemma =>
    have HV := Aside0.mk hv
    have HFR := Aside0.mk (from_row HN3.out HB3.out.size hv HLN.out)
    clear hv
    go_wp2_with (first | fail | ((with_reducible refine gate_upon ?_); go_simp))
    refine HFR.out.mono ?_
    rintro e w4 ⟨gw, cw, d, rfl, hr4, hd4, hb4⟩
    have HD4 := Aside0.mk hd4
    have HR4 := Aside0.mk hr4
    have HN4' := Aside0.mk (HN3.out.below hb4)
    have HB4 := Aside0.mk (below_step HB3.out hb4)
    have HXm4 := Aside0.mk ((hb4.block _ (blk_lt HXm.out)).trans HXm.out)
    have HW34 := Aside0.mk hb4.size
    clear hr4 hd4 hb4 HXm HN3 HB3 HFR
    have hm0 : w4.cell? ⟨w.heap.size + 1, 0, none⟩ = some (.int .i64 m1) := (blk_cell HXm4.out 0).trans rfl
    have hm1 : w4.cell? ⟨w.heap.size + 1, 1, none⟩ = some (.int .i64 m2) := (blk_cell HXm4.out 1).trans rfl
    have hm2 : w4.cell? ⟨w.heap.size + 1, 2, none⟩ = some (.int .i64 m3) := (blk_cell HXm4.out 2).trans rfl
    obtain ⟨ev, hev⟩ : ∃ ev, ev = (roadP out m1 m2 m3).1 := ⟨_, rfl⟩
    obtain ⟨o2, ho2⟩ : ∃ o2, o2 = (roadP out m1 m2 m3).2 := ⟨_, rfl⟩
    have hnd := HN4'.out.road HB4.out.size m1 m2 m3
    rw [← hev, ← ho2] at hnd
    have HND := Aside0.mk hnd
    have HEV := Aside0.mk (And.intro hev ho2)
    clear hnd hev ho2
    by_cases he : ev = 0
    · have d0 : (ev != 0) = false := by rw [bne_eq_false_iff_eq]; exact he
      obtain ⟨q1, q2, q3, q4⟩ := road_plus (x := (m1, m2, m3)) HLN.out (by show (roadP out m1 m2 m3).1 = 0; rw [← HEV.out.1]; exact he)
      have HQ : Aside0 (isN n m1 = true ∧ isN n m2 = true ∧ Plus (outOf out) (outOf o2) (m1, m2, m3) ∧ o2.length = n) := ⟨q1, q2, by rw [HEV.out.2]; exact q3, by rw [HEV.out.2]; exact q4⟩
      clear q1 q2 q3 q4 he
      go_wp2_with (first | fail | ((with_reducible refine gate_upon ?_); go_simp))
      refine HND.out.mono ?_
      rintro e w5 ⟨rfl, F5, hn5, hc5, hf5⟩
      have HN5 := Aside0.mk hn5
      have HR5 := Aside0.mk (row_chg HR4.out hc5 HN0.out)
      have HXm5 := Aside0.mk (hc5.heap HXm4.out (fun q => by have := HFB.out _ q; omega))
      have HB5 : Aside0 (Below w.heap.size w w5) := ⟨((Chg.of_below (F := F) HB4.out).trans hc5).below (Nat.le_refl _) (fun k hk => (HN4'.out.ge k hk).1)⟩
      have HLN5 : Aside0 (o2.length = n) := ⟨HQ.out.2.2.2⟩
      have HF5 := Aside0.mk (from_row HN5.out HB5.out.size (v := s) (by rw [HLN5.out]; have := HV.out; rwa [HLN.out] at this) HLN5.out)
      clear hn5 hc5 hf5 HR4 HXm4 HN4' HB4 HND hm0 hm1 hm2
      have hm1 : w5.cell? ⟨w.heap.size + 1, 1, none⟩ = some (.int .i64 m2) := (blk_cell HXm5.out 1).trans rfl
      go_wp2_with (first | fail | ((with_reducible refine gate_upon ?_); go_simp))
      refine HF5.out.mono ?_
      rintro e w6 ⟨gi, ci, d', rfl, hr6, hd6, hb6⟩
      have HD6 := Aside0.mk hd6
      have HR6 := Aside0.mk (Kd.R_below HR5.out hb6)
      have HI6 := Aside0.mk hr6
      have HN6 := Aside0.mk (HN5.out.below hb6)
      have HB6 := Aside0.mk (below_step HB5.out hb6)
      have HXm6 := Aside0.mk ((hb6.block _ (blk_lt HXm5.out)).trans HXm5.out)
      have HF6 := Aside0.mk (from_row HN6.out HB6.out.size (v := m2) (by rw [HLN5.out]; exact HQ.out.2.1) HLN5.out)
      clear hr6 hd6 hb6 HR5 HXm5 HN5 HB5 HF5 hm1
      have hm1 : w6.cell? ⟨w.heap.size + 1, 1, none⟩ = some (.int .i64 m2) := (blk_cell HXm6.out 1).trans rfl
      go_wp2_with (first | fail | ((with_reducible refine gate_upon ?_); go_simp))
      refine HF6.out.mono ?_
      rintro e w7 ⟨gb, cb, b, rfl, hr7, hd7, hb7⟩
      have HD7 := Aside0.mk hd7
      have HR7 := Aside0.mk (Kd.R_below HR6.out hb7)
      have HI7 := Aside0.mk (Kd.R_below HI6.out hb7)
      have HBB7 := Aside0.mk hr7
      have HNN : Aside0 (Net n (outOf o2) ∧ Net n (outOf out)) := ⟨⟨net_of (by have := HN6.out.good; rwa [HLN5.out] at this) HLN5.out, net_of HG.out HLN.out⟩⟩
      have HB7 := Aside0.mk (below_step HB6.out hb7)
      have HXm7 := Aside0.mk ((hb7.block _ (blk_lt HXm6.out)).trans HXm6.out)
      have HMM : Aside0 (0 ≤ m1 ∧ m1 < n) := ⟨isN_iff.1 HQ.out.1⟩
      have hmm0 : 0 ≤ m1 := HMM.out.1
      have hmmn : m1 < n := HMM.out.2
      have d1 : decide (m1 < 0) = false := decide_eq_false (by omega)
      have d2 : decide ((n : Int) ≤ m1) = false := decide_eq_false (by omega)
      have dl : ((n : Int) != (n : Int)) = false := by simp
      have HVV : Aside0 (0 ≤ s ∧ s < n) := ⟨by have := isN_iff.1 HV.out; rwa [HLN.out] at this⟩
      clear hr7 hd7 hb7 HR6 HI6 HXm6 HB6 HF6 hm1
      have HFX : Aside0 (∀ (w' : World) (i : Nat), Below w7.heap.size w7 w' → i < n → w'.cell? ⟨gw, i, none⟩ = some (.int .i64 (cv d i)) ∧ w'.cell? ⟨gw, m1.toNat, none⟩ = some (.int .i64 (cv d m1)) ∧ w'.cell? ⟨gb, i, none⟩ = some (.int .i64 (cv b i)) ∧ w'.cell? ⟨gi, i, none⟩ = some (.int .i64 (cv d' i)) ∧ w'.cell? ⟨w.heap.size + 1, 0, none⟩ = some (.int .i64 m1) ∧ w'.cell? ⟨w.heap.size + 1, 2, none⟩ = some (.int .i64 m3)) := ⟨fun w' i hb hi => ⟨row_nat (Kd.R_below HR7.out hb) i hi, row_at (Kd.R_below HR7.out hb) m1 HMM.out.1 HMM.out.2, row_nat (Kd.R_below HBB7.out hb) i hi, row_nat (Kd.R_below HI7.out hb) i hi, pw_cell_below hb ((blk_cell HXm7.out 0).trans rfl), pw_cell_below hb ((blk_cell HXm7.out 2).trans rfl)⟩⟩
      have hm0 : w7.cell? ⟨w.heap.size + 1, 0, none⟩ = some (.int .i64 m1) := (blk_cell HXm7.out 0).trans rfl
      go_wp2_with (first | fail | ((with_reducible refine gate_upon ?_); go_simp))
      clear hm0
      go_loopg [6, 16] n (fun kq v6 v16 w' => ∃ i : Nat, v6 = .bool false ∧ v16 = .int .i64 i ∧ Aside0 (i + kq = n) ∧ Aside0 (Below w7.heap.size w7 w'))
      case atStart => exact ⟨0, rfl, rfl, ⟨by omega⟩, ⟨Below.refl _ _⟩⟩
      case round =>
       as_aux_lemma =>
        obtain ⟨i, rfl, rfl, HI, HBW⟩ := hrel
        cases gk with
        | zero =>
          have hi : n = i := by have := HI.out; omega
          subst hi
          have hgt : decide (n < n) = false := decide_eq_false (by omega)
          go_wp2_with (first | fail | ((with_reducible refine gate_upon ?_); go_simp))
          go_ret
          exact ⟨rfl, below_step HB7.out HBW.out⟩
        | succ gk2 =>
          have hin : i < n := by have := HI.out; omega
          have hlt : decide (i < n) = true := decide_eq_true hin
          have hltI : (i : Int) < n := by omega
          have HI1 : Aside0 (i + 1 + gk2 = n) := ⟨by have := HI.out; omega⟩
          have HWI : Aside0 (wrap64 ((i : Int) + 1) = (i : Int) + 1) := ⟨by unfold wrap64; have := HI.out; have := HN4.out; omega⟩
          have HMO := Aside0.mk (more_dist (x := (m1, m2, m3)) HNN.out.2 HNN.out.1 HQ.out.2.2.1 HMM.out HVV.out HD4.out HD6.out HD7.out (v := (i : Int)) ⟨by omega, by omega⟩)
          have HMB : Aside0 (-1 ≤ cv d m1 ∧ cv d m1 ≤ 1048576 * n ∧ -1 ≤ cv b i ∧ cv b i ≤ 1048576 * n ∧ 1 ≤ m3 ∧ m3 ≤ 1048576) := ⟨by
            have h1 := HD4.out.ge m1 HMM.out.1
            have h2 := HD4.out.most m1 HMM.out.1 HMM.out.2
            have h3 := HD7.out.ge (i : Int) (by omega)
            have h4 := HD7.out.most (i : Int) (by omega) (by omega)
            have h5 := HNN.out.1.road m1 (m1, m2, m3) HMM.out.1 HMM.out.2 ((HQ.out.2.2.1 _ _).2 (Or.inr ⟨rfl, rfl⟩))
            exact ⟨h1, h2, h3, h4, h5.2.2.1, h5.2.2.2⟩⟩
          obtain ⟨qw, qm, qb, qi, q0, q2⟩ := HFX.out wr i HBW.out hin
          have HFI : Aside0 (∀ w', Below w7.heap.size w7 w' → _) := ⟨fun w' hb => HFX.out w' i hb hin⟩
          unfold moreP at HMO
          generalize cv d (i : Int) = dv at qw HMO HFI ⊢
          generalize cv d m1 = dm at qm HMO HFI HMB ⊢
          generalize cv b (i : Int) = bv at qb HMO HFI HMB ⊢
          generalize cv d' (i : Int) = iv at qi HMO HFI ⊢
          have HW1 : Aside0 (wrap64 (dm + m3) = dm + m3) := ⟨by unfold wrap64; have := HMB.out; have := HN4.out; omega⟩
          have HW2 : Aside0 (wrap64 (dm + m3 + bv) = dm + m3 + bv) := ⟨by unfold wrap64; have := HMB.out; have := HN4.out; omega⟩
          go_upto_region 17 with ((with_reducible refine gate_upon ?_); go_simp)
          clear qw qm qb qi q0 q2
          by_cases a1 : 0 ≤ dm
          · have c1 : decide (0 ≤ dm) = true := decide_eq_true a1
            by_cases a2 : 0 ≤ bv
            · have c2 : decide (0 ≤ bv) = true := decide_eq_true a2
              by_cases a3 : dv < 0
              · have c3 : decide (dv < 0) = true := decide_eq_true a3
                have HE : Aside0 (iv = dm + m3 + bv) := ⟨by rw [HMO.out, if_pos ⟨a1, a2, Or.inl a3⟩]⟩
                clear a1 a2 a3
                have hw1 := HW1.out
                have hw2 := HW2.out
                refine start_ (n := 34) (S := fun w' => w'.cell? ⟨gw, i, none⟩ = some (.int .i64 dv) ∧ w'.cell? ⟨gw, m1.toNat, none⟩ = some (.int .i64 dm) ∧ w'.cell? ⟨gb, i, none⟩ = some (.int .i64 bv) ∧ w'.cell? ⟨gi, i, none⟩ = some (.int .i64 iv) ∧ w'.cell? ⟨w.heap.size + 1, 0, none⟩ = some (.int .i64 m1) ∧ w'.cell? ⟨w.heap.size + 1, 2, none⟩ = some (.int .i64 m3)) (ds := []) #[ff,ff,ff,ff,ff,ff,ff,ff,ff,ff,ff,ff,ff,ff,ff,ff,ff,ff,ff,ff,ff,ff,ff,ff,ff,ff,ff,ff,ff,ff,ff,ff,ff,ff] (by kernel_rfl) rfl rfl ⟨(HFI.out _ HBW.out).1, (HFI.out _ HBW.out).2.1, (HFI.out _ HBW.out).2.2.1, (HFI.out _ HBW.out).2.2.2.1, (HFI.out _ HBW.out).2.2.2.2.1, (HFI.out _ HBW.out).2.2.2.2.2⟩ (fun hHeld => ?_)
                refine with_tabW more.tab17 more.bits17 (fun HT_ HW_ => ?_)
                have HB8 : Aside0 (Below w7.heap.size w7 wr.drew) := ⟨below_drew HBW.out⟩
                generalize wr.drew = w8 at HB8 hHeld ⊢
                refine pure_ (i := 0) (N := some 104) (v := ?_) (a' := ?_) #[tt,ff,ff,ff,ff,ff,ff,ff,ff,ff,ff,ff,ff,ff,ff,ff,ff,ff,ff,ff,ff,ff,ff,ff,ff,ff,ff,ff,ff,ff,ff,ff,ff,ff] rfl rfl (any_of HT_.out (by kernel_rfl)) (fun _ _ _ h => h) (Or.inl ⟨by rfl, ?_⟩) ?_ ?_
                rotate_left; exact slv; rotate_left; exact sla
                refine pure_ (i := 1) (N := some 105) (v := ?_) (a' := ?_) #[tt,tt,ff,ff,ff,ff,ff,ff,ff,ff,ff,ff,ff,ff,ff,ff,ff,ff,ff,ff,ff,ff,ff,ff,ff,ff,ff,ff,ff,ff,ff,ff,ff,ff] rfl rfl (any_of HT_.out (by kernel_rfl)) (fun _ _ _ h => h) (Or.inl ⟨by rfl, ?_⟩) ?_ ?_
                rotate_left; exact slv; rotate_left; exact sla
                refine take_ (i := 2) (N := some 106) (v := ?_) (a' := ?_) #[tt,tt,tt,ff,ff,ff,ff,ff,ff,ff,ff,ff,ff,ff,ff,ff,ff,ff,ff,ff,ff,ff,ff,ff,ff,ff,ff,ff,ff,ff,ff,ff,ff,ff] rfl rfl (take_ofW HT_.out HW_.out (by kernel_rfl)) (fun _ _ _ h => h) (Or.inl ⟨by rfl, ?_⟩) hHeld ?_ ?_
                rotate_left; exact slt6; rotate_left; exact sla
                refine pure_ (i := 3) (N := some 107) (v := ?_) (a' := ?_) #[tt,tt,tt,tt,ff,ff,ff,ff,ff,ff,ff,ff,ff,ff,ff,ff,ff,ff,ff,ff,ff,ff,ff,ff,ff,ff,ff,ff,ff,ff,ff,ff,ff,ff] rfl rfl (any_of HT_.out (by kernel_rfl)) (fun _ _ _ h => h) (Or.inl ⟨by rfl, ?_⟩) ?_ ?_
                rotate_left; exact slv; rotate_left; exact sla
                refine take_ (i := 4) (N := some 108) (v := ?_) (a' := ?_) #[tt,tt,tt,tt,tt,ff,ff,ff,ff,ff,ff,ff,ff,ff,ff,ff,ff,ff,ff,ff,ff,ff,ff,ff,ff,ff,ff,ff,ff,ff,ff,ff,ff,ff] rfl rfl (take_ofW HT_.out HW_.out (by kernel_rfl)) (fun _ _ _ h => h) (Or.inl ⟨by rfl, ?_⟩) hHeld ?_ ?_
                rotate_left; exact slt6; rotate_left; exact sla
                refine pure_ (i := 5) (N := some 109) (v := ?_) (a' := ?_) #[tt,tt,tt,tt,tt,tt,ff,ff,ff,ff,ff,ff,ff,ff,ff,ff,ff,ff,ff,ff,ff,ff,ff,ff,ff,ff,ff,ff,ff,ff,ff,ff,ff,ff] rfl rfl (any_of HT_.out (by kernel_rfl)) (fun _ _ _ h => h) (Or.inl ⟨by rfl, ?_⟩) ?_ ?_
                rotate_left; exact slv; rotate_left; exact sla
                refine pure_ (i := 6) (N := some 110) (v := ?_) (a' := ?_) #[tt,tt,tt,tt,tt,tt,tt,ff,ff,ff,ff,ff,ff,ff,ff,ff,ff,ff,ff,ff,ff,ff,ff,ff,ff,ff,ff,ff,ff,ff,ff,ff,ff,ff] rfl rfl (any_of HT_.out (by kernel_rfl)) (fun _ _ _ h => h) (Or.inl ⟨by rfl, ?_⟩) ?_ ?_
                rotate_left; exact slv; rotate_left; exact sla
                refine pure_ (i := 7) (N := some 111) (v := ?_) (a' := ?_) #[tt,tt,tt,tt,tt,tt,tt,tt,ff,ff,ff,ff,ff,ff,ff,ff,ff,ff,ff,ff,ff,ff,ff,ff,ff,ff,ff,ff,ff,ff,ff,ff,ff,ff] rfl rfl (any_of HT_.out (by kernel_rfl)) (fun _ _ _ h => h) (Or.inl ⟨by rfl, ?_⟩) ?_ ?_
                rotate_left; exact slv; rotate_left; exact sla
                refine pure_ (i := 8) (N := some 112) (v := ?_) (a' := ?_) #[tt,tt,tt,tt,tt,tt,tt,tt,tt,ff,ff,ff,ff,ff,ff,ff,ff,ff,ff,ff,ff,ff,ff,ff,ff,ff,ff,ff,ff,ff,ff,ff,ff,ff] rfl rfl (any_of HT_.out (by kernel_rfl)) (fun _ _ _ h => h) (Or.inl ⟨by rfl, ?_⟩) ?_ ?_
                rotate_left; exact slv; rotate_left; exact sla
                refine pure_ (i := 9) (N := some 113) (v := ?_) (a' := ?_) #[tt,tt,tt,tt,tt,tt,tt,tt,tt,tt,ff,ff,ff,ff,ff,ff,ff,ff,ff,ff,ff,ff,ff,ff,ff,ff,ff,ff,ff,ff,ff,ff,ff,ff] rfl rfl (any_of HT_.out (by kernel_rfl)) (fun _ _ _ h => h) (Or.inl ⟨by rfl, ?_⟩) ?_ ?_
                rotate_left; exact slv; rotate_left; exact sla
                refine take_ (i := 10) (N := some 114) (v := ?_) (a' := ?_) #[tt,tt,tt,tt,tt,tt,tt,tt,tt,tt,tt,ff,ff,ff,ff,ff,ff,ff,ff,ff,ff,ff,ff,ff,ff,ff,ff,ff,ff,ff,ff,ff,ff,ff] rfl rfl (take_ofW HT_.out HW_.out (by kernel_rfl)) (fun _ _ _ h => h) (Or.inl ⟨by rfl, ?_⟩) hHeld ?_ ?_
                rotate_left; exact slt6; rotate_left; exact sla
                refine pure_ (i := 11) (N := some 115) (v := ?_) (a' := ?_) #[tt,tt,tt,tt,tt,tt,tt,tt,tt,tt,tt,tt,ff,ff,ff,ff,ff,ff,ff,ff,ff,ff,ff,ff,ff,ff,ff,ff,ff,ff,ff,ff,ff,ff] rfl rfl (any_of HT_.out (by kernel_rfl)) (fun _ _ _ h => h) (Or.inl ⟨by rfl, ?_⟩) ?_ ?_
                rotate_left; exact slv; rotate_left; exact sla
                refine pure_ (i := 12) (N := some 116) (v := ?_) (a' := ?_) #[tt,tt,tt,tt,tt,tt,tt,tt,tt,tt,tt,tt,tt,ff,ff,ff,ff,ff,ff,ff,ff,ff,ff,ff,ff,ff,ff,ff,ff,ff,ff,ff,ff,ff] rfl rfl (any_of HT_.out (by kernel_rfl)) (fun _ _ _ h => h) (Or.inl ⟨by rfl, ?_⟩) ?_ ?_
                rotate_left; exact slv; rotate_left; exact sla
                refine pure_ (i := 13) (N := some 117) (v := ?_) (a' := ?_) #[tt,tt,tt,tt,tt,tt,tt,tt,tt,tt,tt,tt,tt,tt,ff,ff,ff,ff,ff,ff,ff,ff,ff,ff,ff,ff,ff,ff,ff,ff,ff,ff,ff,ff] rfl rfl (any_of HT_.out (by kernel_rfl)) (fun _ _ _ h => h) (Or.inl ⟨by rfl, ?_⟩) ?_ ?_
                rotate_left; exact slv; rotate_left; exact sla
                refine pure_ (i := 14) (N := some 118) (v := ?_) (a' := ?_) #[tt,tt,tt,tt,tt,tt,tt,tt,tt,tt,tt,tt,tt,tt,tt,ff,ff,ff,ff,ff,ff,ff,ff,ff,ff,ff,ff,ff,ff,ff,ff,ff,ff,ff] rfl rfl (any_of HT_.out (by kernel_rfl)) (fun _ _ _ h => h) (Or.inl ⟨by rfl, ?_⟩) ?_ ?_
                rotate_left; exact slv; rotate_left; exact sla
                refine pure_ (i := 15) (N := some 119) (v := ?_) (a' := ?_) #[tt,tt,tt,tt,tt,tt,tt,tt,tt,tt,tt,tt,tt,tt,tt,tt,ff,ff,ff,ff,ff,ff,ff,ff,ff,ff,ff,ff,ff,ff,ff,ff,ff,ff] rfl rfl (any_of HT_.out (by kernel_rfl)) (fun _ _ _ h => h) (Or.inl ⟨by rfl, ?_⟩) ?_ ?_
                rotate_left; exact slv; rotate_left; exact sla
                refine pure_ (i := 16) (N := some 120) (v := ?_) (a' := ?_) #[tt,tt,tt,tt,tt,tt,tt,tt,tt,tt,tt,tt,tt,tt,tt,tt,tt,ff,ff,ff,ff,ff,ff,ff,ff,ff,ff,ff,ff,ff,ff,ff,ff,ff] rfl rfl (any_of HT_.out (by kernel_rfl)) (fun _ _ _ h => h) (Or.inl ⟨by rfl, ?_⟩) ?_ ?_
                rotate_left; exact slv; rotate_left; exact sla
                refine pure_ (i := 17) (N := some 121) (v := undef) (a' := ?_) #[tt,tt,tt,tt,tt,tt,tt,tt,tt,tt,tt,tt,tt,tt,tt,tt,tt,tt,ff,ff,ff,ff,ff,ff,ff,ff,ff,ff,ff,ff,ff,ff,ff,ff] rfl rfl (any_of HT_.out (by kernel_rfl)) (fun _ _ _ h => h) (Or.inr ⟨by rfl, rfl⟩) ?_ ?_
                rotate_left
                · exact sla
                refine pure_ (i := 18) (N := some 122) (v := undef) (a' := ?_) #[tt,tt,tt,tt,tt,tt,tt,tt,tt,tt,tt,tt,tt,tt,tt,tt,tt,tt,tt,ff,ff,ff,ff,ff,ff,ff,ff,ff,ff,ff,ff,ff,ff,ff] rfl rfl (any_of HT_.out (by kernel_rfl)) (fun _ _ _ h => h) (Or.inr ⟨by rfl, rfl⟩) ?_ ?_
                rotate_left
                · exact sla
                refine pure_ (i := 19) (N := some 123) (v := undef) (a' := ?_) #[tt,tt,tt,tt,tt,tt,tt,tt,tt,tt,tt,tt,tt,tt,tt,tt,tt,tt,tt,tt,ff,ff,ff,ff,ff,ff,ff,ff,ff,ff,ff,ff,ff,ff] rfl rfl (any_of HT_.out (by kernel_rfl)) (fun _ _ _ h => h) (Or.inr ⟨by rfl, rfl⟩) ?_ ?_
                rotate_left
                · exact sla
                refine pure_ (i := 20) (N := some 124) (v := undef) (a' := ?_) #[tt,tt,tt,tt,tt,tt,tt,tt,tt,tt,tt,tt,tt,tt,tt,tt,tt,tt,tt,tt,tt,ff,ff,ff,ff,ff,ff,ff,ff,ff,ff,ff,ff,ff] rfl rfl (any_of HT_.out (by kernel_rfl)) (fun _ _ _ h => h) (Or.inr ⟨by rfl, rfl⟩) ?_ ?_
                rotate_left
                · exact sla
                refine pure_ (i := 21) (N := some 125) (v := undef) (a' := ?_) #[tt,tt,tt,tt,tt,tt,tt,tt,tt,tt,tt,tt,tt,tt,tt,tt,tt,tt,tt,tt,tt,tt,ff,ff,ff,ff,ff,ff,ff,ff,ff,ff,ff,ff] rfl rfl (any_of HT_.out (by kernel_rfl)) (fun _ _ _ h => h) (Or.inr ⟨by rfl, rfl⟩) ?_ ?_
                rotate_left
                · exact sla
                refine pure_ (i := 22) (N := some 126) (v := undef) (a' := ?_) #[tt,tt,tt,tt,tt,tt,tt,tt,tt,tt,tt,tt,tt,tt,tt,tt,tt,tt,tt,tt,tt,tt,tt,ff,ff,ff,ff,ff,ff,ff,ff,ff,ff,ff] rfl rfl (any_of HT_.out (by kernel_rfl)) (fun _ _ _ h => h) (Or.inr ⟨by rfl, rfl⟩) ?_ ?_
                rotate_left
                · exact sla
                refine pure_ (i := 23) (N := some 127) (v := undef) (a' := ?_) #[tt,tt,tt,tt,tt,tt,tt,tt,tt,tt,tt,tt,tt,tt,tt,tt,tt,tt,tt,tt,tt,tt,tt,tt,ff,ff,ff,ff,ff,ff,ff,ff,ff,ff] rfl rfl (any_of HT_.out (by kernel_rfl)) (fun _ _ _ h => h) (Or.inr ⟨by rfl, rfl⟩) ?_ ?_
                rotate_left
                · exact sla
                refine pure_ (i := 24) (N := some 128) (v := undef) (a' := ?_) #[tt,tt,tt,tt,tt,tt,tt,tt,tt,tt,tt,tt,tt,tt,tt,tt,tt,tt,tt,tt,tt,tt,tt,tt,tt,ff,ff,ff,ff,ff,ff,ff,ff,ff] rfl rfl (any_of HT_.out (by kernel_rfl)) (fun _ _ _ h => h) (Or.inr ⟨by rfl, rfl⟩) ?_ ?_
                rotate_left
                · exact sla
                refine pure_ (i := 25) (N := some 129) (v := undef) (a' := ?_) #[tt,tt,tt,tt,tt,tt,tt,tt,tt,tt,tt,tt,tt,tt,tt,tt,tt,tt,tt,tt,tt,tt,tt,tt,tt,tt,ff,ff,ff,ff,ff,ff,ff,ff] rfl rfl (any_of HT_.out (by kernel_rfl)) (fun _ _ _ h => h) (Or.inr ⟨by rfl, rfl⟩) ?_ ?_
                rotate_left
                · exact sla
                refine pure_ (i := 26) (N := some 130) (v := undef) (a' := ?_) #[tt,tt,tt,tt,tt,tt,tt,tt,tt,tt,tt,tt,tt,tt,tt,tt,tt,tt,tt,tt,tt,tt,tt,tt,tt,tt,tt,ff,ff,ff,ff,ff,ff,ff] rfl rfl (any_of HT_.out (by kernel_rfl)) (fun _ _ _ h => h) (Or.inr ⟨by rfl, rfl⟩) ?_ ?_
                rotate_left
                · exact sla
                refine pure_ (i := 27) (N := some 131) (v := undef) (a' := ?_) #[tt,tt,tt,tt,tt,tt,tt,tt,tt,tt,tt,tt,tt,tt,tt,tt,tt,tt,tt,tt,tt,tt,tt,tt,tt,tt,tt,tt,ff,ff,ff,ff,ff,ff] rfl rfl (any_of HT_.out (by kernel_rfl)) (fun _ _ _ h => h) (Or.inr ⟨by rfl, rfl⟩) ?_ ?_
                rotate_left
                · exact sla
                refine pure_ (i := 28) (N := some 132) (v := undef) (a' := ?_) #[tt,tt,tt,tt,tt,tt,tt,tt,tt,tt,tt,tt,tt,tt,tt,tt,tt,tt,tt,tt,tt,tt,tt,tt,tt,tt,tt,tt,tt,ff,ff,ff,ff,ff] rfl rfl (any_of HT_.out (by kernel_rfl)) (fun _ _ _ h => h) (Or.inr ⟨by rfl, rfl⟩) ?_ ?_
                rotate_left
                · exact sla
                refine pure_ (i := 29) (N := some 133) (v := undef) (a' := ?_) #[tt,tt,tt,tt,tt,tt,tt,tt,tt,tt,tt,tt,tt,tt,tt,tt,tt,tt,tt,tt,tt,tt,tt,tt,tt,tt,tt,tt,tt,tt,ff,ff,ff,ff] rfl rfl (any_of HT_.out (by kernel_rfl)) (fun _ _ _ h => h) (Or.inr ⟨by rfl, rfl⟩) ?_ ?_
                rotate_left
                · exact sla
                refine pure_ (i := 30) (N := some 134) (v := undef) (a' := ?_) #[tt,tt,tt,tt,tt,tt,tt,tt,tt,tt,tt,tt,tt,tt,tt,tt,tt,tt,tt,tt,tt,tt,tt,tt,tt,tt,tt,tt,tt,tt,tt,ff,ff,ff] rfl rfl (any_of HT_.out (by kernel_rfl)) (fun _ _ _ h => h) (Or.inr ⟨by rfl, rfl⟩) ?_ ?_
                rotate_left
                · exact sla
                refine pure_ (i := 31) (N := some 135) (v := undef) (a' := ?_) #[tt,tt,tt,tt,tt,tt,tt,tt,tt,tt,tt,tt,tt,tt,tt,tt,tt,tt,tt,tt,tt,tt,tt,tt,tt,tt,tt,tt,tt,tt,tt,tt,ff,ff] rfl rfl (any_of HT_.out (by kernel_rfl)) (fun _ _ _ h => h) (Or.inr ⟨by rfl, rfl⟩) ?_ ?_
                rotate_left
                · exact sla
                refine pure_ (i := 32) (N := some 136) (v := ?_) (a' := ?_) #[tt,tt,tt,tt,tt,tt,tt,tt,tt,tt,tt,tt,tt,tt,tt,tt,tt,tt,tt,tt,tt,tt,tt,tt,tt,tt,tt,tt,tt,tt,tt,tt,tt,ff] rfl rfl (any_of HT_.out (by kernel_rfl)) (fun _ _ _ h => h) (Or.inl ⟨by rfl, ?_⟩) ?_ ?_
                rotate_left; exact slv; rotate_left; exact sla
                refine pure_ (i := 33) (N := some 137) (v := ?_) (a' := ?_) #[tt,tt,tt,tt,tt,tt,tt,tt,tt,tt,tt,tt,tt,tt,tt,tt,tt,tt,tt,tt,tt,tt,tt,tt,tt,tt,tt,tt,tt,tt,tt,tt,tt,tt] rfl rfl (any_of HT_.out (by kernel_rfl)) (fun _ _ _ h => h) (Or.inl ⟨by rfl, ?_⟩) ?_ ?_
                rotate_left; exact slv; rotate_left; exact sla
                refine done_ (done_of HT_.out (by kernel_rfl)) ?_
                try clear hHeld hw1 hw2
                go_wp2_with ((with_reducible refine gate_upon ?_); go_simp)
                have hw1 := HW1.out
                have hw2 := HW2.out
                refine start_ (n := 14) (S := fun w' => w'.cell? ⟨gw, i, none⟩ = some (.int .i64 dv) ∧ w'.cell? ⟨gw, m1.toNat, none⟩ = some (.int .i64 dm) ∧ w'.cell? ⟨gb, i, none⟩ = some (.int .i64 bv) ∧ w'.cell? ⟨gi, i, none⟩ = some (.int .i64 iv) ∧ w'.cell? ⟨w.heap.size + 1, 0, none⟩ = some (.int .i64 m1) ∧ w'.cell? ⟨w.heap.size + 1, 2, none⟩ = some (.int .i64 m3)) (ds := []) #[ff,ff,ff,ff,ff,ff,ff,ff,ff,ff,ff,ff,ff,ff] (by kernel_rfl) rfl rfl ⟨(HFI.out _ HB8.out).1, (HFI.out _ HB8.out).2.1, (HFI.out _ HB8.out).2.2.1, (HFI.out _ HB8.out).2.2.2.1, (HFI.out _ HB8.out).2.2.2.2.1, (HFI.out _ HB8.out).2.2.2.2.2⟩ (fun hHeld => ?_)
                refine with_tabW more.tab18 more.bits18 (fun HT_ HW_ => ?_)
                have HB9 : Aside0 (Below w7.heap.size w7 w8.drew) := ⟨below_drew HB8.out⟩
                generalize w8.drew = w9 at HB9 hHeld ⊢
                refine pure_ (i := 0) (N := some 138) (v := ?_) (a' := ?_) #[tt,ff,ff,ff,ff,ff,ff,ff,ff,ff,ff,ff,ff,ff] rfl rfl (any_of HT_.out (by kernel_rfl)) (fun _ _ _ h => h) (Or.inl ⟨by rfl, ?_⟩) ?_ ?_
                rotate_left; exact slv; rotate_left; exact sla
                refine pure_ (i := 1) (N := some 139) (v := ?_) (a' := ?_) #[tt,tt,ff,ff,ff,ff,ff,ff,ff,ff,ff,ff,ff,ff] rfl rfl (any_of HT_.out (by kernel_rfl)) (fun _ _ _ h => h) (Or.inl ⟨by rfl, ?_⟩) ?_ ?_
                rotate_left; exact slv; rotate_left; exact sla
                refine pure_ (i := 5) (N := some 143) (v := ?_) (a' := ?_) #[tt,tt,ff,ff,ff,tt,ff,ff,ff,ff,ff,ff,ff,ff] rfl rfl (any_of HT_.out (by kernel_rfl)) (fun _ _ _ h => h) (Or.inl ⟨by rfl, ?_⟩) ?_ ?_
                rotate_left; exact slv; rotate_left; exact sla
                refine pure_ (i := 8) (N := some 146) (v := ?_) (a' := ?_) #[tt,tt,ff,ff,ff,tt,ff,ff,tt,ff,ff,ff,ff,ff] rfl rfl (any_of HT_.out (by kernel_rfl)) (fun _ _ _ h => h) (Or.inl ⟨by rfl, ?_⟩) ?_ ?_
                rotate_left; exact slv; rotate_left; exact sla
                refine pure_ (i := 9) (N := some 147) (v := ?_) (a' := ?_) #[tt,tt,ff,ff,ff,tt,ff,ff,tt,tt,ff,ff,ff,ff] rfl rfl (any_of HT_.out (by kernel_rfl)) (fun _ _ _ h => h) (Or.inl ⟨by rfl, ?_⟩) ?_ ?_
                rotate_left; exact slv; rotate_left; exact sla
                refine pure_ (i := 10) (N := some 148) (v := ?_) (a' := ?_) #[tt,tt,ff,ff,ff,tt,ff,ff,tt,tt,tt,ff,ff,ff] rfl rfl (any_of HT_.out (by kernel_rfl)) (fun _ _ _ h => h) (Or.inl ⟨by rfl, ?_⟩) ?_ ?_
                rotate_left; exact slv; rotate_left; exact sla
                refine take_ (i := 2) (N := some 140) (v := ?_) (a' := ?_) #[tt,tt,tt,ff,ff,tt,ff,ff,tt,tt,tt,ff,ff,ff] rfl rfl (take_ofW HT_.out HW_.out (by kernel_rfl)) (fun _ _ _ h => h) (Or.inl ⟨by rfl, ?_⟩) hHeld ?_ ?_
                rotate_left; exact slt6; rotate_left; exact sla
                refine pure_ (i := 3) (N := some 141) (v := ?_) (a' := ?_) #[tt,tt,tt,tt,ff,tt,ff,ff,tt,tt,tt,ff,ff,ff] rfl rfl (any_of HT_.out (by kernel_rfl)) (fun _ _ _ h => h) (Or.inl ⟨by rfl, ?_⟩) ?_ ?_
                rotate_left; exact slv; rotate_left; exact sla
                refine take_ (i := 4) (N := some 142) (v := ?_) (a' := ?_) #[tt,tt,tt,tt,tt,tt,ff,ff,tt,tt,tt,ff,ff,ff] rfl rfl (take_ofW HT_.out HW_.out (by kernel_rfl)) (fun _ _ _ h => h) (Or.inl ⟨by rfl, ?_⟩) hHeld ?_ ?_
                rotate_left; exact slt6; rotate_left; exact sla
                refine take_ (i := 6) (N := some 144) (v := ?_) (a' := ?_) #[tt,tt,tt,tt,tt,tt,tt,ff,tt,tt,tt,ff,ff,ff] rfl rfl (take_ofW HT_.out HW_.out (by kernel_rfl)) (fun _ _ _ h => h) (Or.inl ⟨by rfl, ?_⟩) hHeld ?_ ?_
                rotate_left; exact slt6; rotate_left; exact sla
                refine pure_ (i := 7) (N := some 145) (v := ?_) (a' := ?_) #[tt,tt,tt,tt,tt,tt,tt,tt,tt,tt,tt,ff,ff,ff] rfl rfl (any_of HT_.out (by kernel_rfl)) (fun _ _ _ h => h) (Or.inl ⟨by rfl, ?_⟩) ?_ ?_
                rotate_left; exact slv; rotate_left; exact sla
                refine take_ (i := 11) (N := some 149) (v := ?_) (a' := ?_) #[tt,tt,tt,tt,tt,tt,tt,tt,tt,tt,tt,tt,ff,ff] rfl rfl (take_ofW HT_.out HW_.out (by kernel_rfl)) (fun _ _ _ h => h) (Or.inl ⟨by rfl, ?_⟩) hHeld ?_ ?_
                rotate_left; exact slt6; rotate_left; exact sla
                refine pure_ (i := 12) (N := some 150) (v := ?_) (a' := ?_) #[tt,tt,tt,tt,tt,tt,tt,tt,tt,tt,tt,tt,tt,ff] rfl rfl (any_of HT_.out (by kernel_rfl)) (fun _ _ _ h => h) (Or.inl ⟨by rfl, ?_⟩) ?_ ?_
                rotate_left; exact slv; rotate_left; exact sla
                refine pure_ (i := 13) (N := some 17) (v := ?_) (a' := ?_) #[tt,tt,tt,tt,tt,tt,tt,tt,tt,tt,tt,tt,tt,tt] rfl rfl (any_of HT_.out (by kernel_rfl)) (fun _ _ _ h => h) (Or.inl ⟨by rfl, ?_⟩) ?_ ?_
                rotate_left; exact slv; rotate_left; exact sla
                refine done_ (done_of HT_.out (by kernel_rfl)) ?_
                try clear hHeld hw1 hw2
                have qi := (HFI.out w9 HB9.out).2.2.2.1
                have dz : (iv != dm + m3 + bv) = false := by rw [bne_eq_false_iff_eq]; exact HE.out
                have hwi := HWI.out
                go_wp2_with ((with_reducible refine gate_upon ?_); go_simp)
                go_roundg gk2
                case measure => first | exact Nat.lt_succ_self _ | omega
                case rel => exact ⟨i + 1, rfl, by first | rfl | (simp; done) | (rw [hwi]; rfl), HI1, HB9⟩
              · have c3 : decide (dv < 0) = false := decide_eq_false a3
                by_cases a4 : dm + m3 + bv < dv
                · have c4 : decide (dm + m3 + bv < dv) = true := decide_eq_true a4
                  have HE : Aside0 (iv = dm + m3 + bv) := ⟨by rw [HMO.out, if_pos ⟨a1, a2, Or.inr a4⟩]⟩
                  clear a1 a2 a3 a4
                  have hw1 := HW1.out
                  have hw2 := HW2.out
                  refine start_ (n := 34) (S := fun w' => w'.cell? ⟨gw, i, none⟩ = some (.int .i64 dv) ∧ w'.cell? ⟨gw, m1.toNat, none⟩ = some (.int .i64 dm) ∧ w'.cell? ⟨gb, i, none⟩ = some (.int .i64 bv) ∧ w'.cell? ⟨gi, i, none⟩ = some (.int .i64 iv) ∧ w'.cell? ⟨w.heap.size + 1, 0, none⟩ = some (.int .i64 m1) ∧ w'.cell? ⟨w.heap.size + 1, 2, none⟩ = some (.int .i64 m3)) (ds := []) #[ff,ff,ff,ff,ff,ff,ff,ff,ff,ff,ff,ff,ff,ff,ff,ff,ff,ff,ff,ff,ff,ff,ff,ff,ff,ff,ff,ff,ff,ff,ff,ff,ff,ff] (by kernel_rfl) rfl rfl ⟨(HFI.out _ HBW.out).1, (HFI.out _ HBW.out).2.1, (HFI.out _ HBW.out).2.2.1, (HFI.out _ HBW.out).2.2.2.1, (HFI.out _ HBW.out).2.2.2.2.1, (HFI.out _ HBW.out).2.2.2.2.2⟩ (fun hHeld => ?_)
                  refine with_tabW more.tab17 more.bits17 (fun HT_ HW_ => ?_)
                  have HB8 : Aside0 (Below w7.heap.size w7 wr.drew) := ⟨below_drew HBW.out⟩
                  generalize wr.drew = w8 at HB8 hHeld ⊢
                  refine pure_ (i := 0) (N := some 104) (v := ?_) (a' := ?_) #[tt,ff,ff,ff,ff,ff,ff,ff,ff,ff,ff,ff,ff,ff,ff,ff,ff,ff,ff,ff,ff,ff,ff,ff,ff,ff,ff,ff,ff,ff,ff,ff,ff,ff] rfl rfl (any_of HT_.out (by kernel_rfl)) (fun _ _ _ h => h) (Or.inl ⟨by rfl, ?_⟩) ?_ ?_
                  rotate_left; exact slv; rotate_left; exact sla
                  refine pure_ (i := 1) (N := some 105) (v := ?_) (a' := ?_) #[tt,tt,ff,ff,ff,ff,ff,ff,ff,ff,ff,ff,ff,ff,ff,ff,ff,ff,ff,ff,ff,ff,ff,ff,ff,ff,ff,ff,ff,ff,ff,ff,ff,ff] rfl rfl (any_of HT_.out (by kernel_rfl)) (fun _ _ _ h => h) (Or.inl ⟨by rfl, ?_⟩) ?_ ?_
                  rotate_left; exact slv; rotate_left; exact sla
                  refine take_ (i := 2) (N := some 106) (v := ?_) (a' := ?_) #[tt,tt,tt,ff,ff,ff,ff,ff,ff,ff,ff,ff,ff,ff,ff,ff,ff,ff,ff,ff,ff,ff,ff,ff,ff,ff,ff,ff,ff,ff,ff,ff,ff,ff] rfl rfl (take_ofW HT_.out HW_.out (by kernel_rfl)) (fun _ _ _ h => h) (Or.inl ⟨by rfl, ?_⟩) hHeld ?_ ?_
                  rotate_left; exact slt6; rotate_left; exact sla
                  refine pure_ (i := 3) (N := some 107) (v := ?_) (a' := ?_) #[tt,tt,tt,tt,ff,ff,ff,ff,ff,ff,ff,ff,ff,ff,ff,ff,ff,ff,ff,ff,ff,ff,ff,ff,ff,ff,ff,ff,ff,ff,ff,ff,ff,ff] rfl rfl (any_of HT_.out (by kernel_rfl)) (fun _ _ _ h => h) (Or.inl ⟨by rfl, ?_⟩) ?_ ?_
                  rotate_left; exact slv; rotate_left; exact sla
                  refine take_ (i := 4) (N := some 108) (v := ?_) (a' := ?_) #[tt,tt,tt,tt,tt,ff,ff,ff,ff,ff,ff,ff,ff,ff,ff,ff,ff,ff,ff,ff,ff,ff,ff,ff,ff,ff,ff,ff,ff,ff,ff,ff,ff,ff] rfl rfl (take_ofW HT_.out HW_.out (by kernel_rfl)) (fun _ _ _ h => h) (Or.inl ⟨by rfl, ?_⟩) hHeld ?_ ?_
                  rotate_left; exact slt6; rotate_left; exact sla
                  refine pure_ (i := 5) (N := some 109) (v := ?_) (a' := ?_) #[tt,tt,tt,tt,tt,tt,ff,ff,ff,ff,ff,ff,ff,ff,ff,ff,ff,ff,ff,ff,ff,ff,ff,ff,ff,ff,ff,ff,ff,ff,ff,ff,ff,ff] rfl rfl (any_of HT_.out (by kernel_rfl)) (fun _ _ _ h => h) (Or.inl ⟨by rfl, ?_⟩) ?_ ?_
                  rotate_left; exact slv; rotate_left; exact sla
                  refine pure_ (i := 6) (N := some 110) (v := ?_) (a' := ?_) #[tt,tt,tt,tt,tt,tt,tt,ff,ff,ff,ff,ff,ff,ff,ff,ff,ff,ff,ff,ff,ff,ff,ff,ff,ff,ff,ff,ff,ff,ff,ff,ff,ff,ff] rfl rfl (any_of HT_.out (by kernel_rfl)) (fun _ _ _ h => h) (Or.inl ⟨by rfl, ?_⟩) ?_ ?_
                  rotate_left; exact slv; rotate_left; exact sla
                  refine pure_ (i := 7) (N := some 111) (v := ?_) (a' := ?_) #[tt,tt,tt,tt,tt,tt,tt,tt,ff,ff,ff,ff,ff,ff,ff,ff,ff,ff,ff,ff,ff,ff,ff,ff,ff,ff,ff,ff,ff,ff,ff,ff,ff,ff] rfl rfl (any_of HT_.out (by kernel_rfl)) (fun _ _ _ h => h) (Or.inl ⟨by rfl, ?_⟩) ?_ ?_
                  rotate_left; exact slv; rotate_left; exact sla
                  refine pure_ (i := 8) (N := some 112) (v := ?_) (a' := ?_) #[tt,tt,tt,tt,tt,tt,tt,tt,tt,ff,ff,ff,ff,ff,ff,ff,ff,ff,ff,ff,ff,ff,ff,ff,ff,ff,ff,ff,ff,ff,ff,ff,ff,ff] rfl rfl (any_of HT_.out (by kernel_rfl)) (fun _ _ _ h => h) (Or.inl ⟨by rfl, ?_⟩) ?_ ?_
                  rotate_left; exact slv; rotate_left; exact sla
                  refine pure_ (i := 9) (N := some 113) (v := ?_) (a' := ?_) #[tt,tt,tt,tt,tt,tt,tt,tt,tt,tt,ff,ff,ff,ff,ff,ff,ff,ff,ff,ff,ff,ff,ff,ff,ff,ff,ff,ff,ff,ff,ff,ff,ff,ff] rfl rfl (any_of HT_.out (by kernel_rfl)) (fun _ _ _ h => h) (Or.inl ⟨by rfl, ?_⟩) ?_ ?_
                  rotate_left; exact slv; rotate_left; exact sla
                  refine take_ (i := 10) (N := some 114) (v := ?_) (a' := ?_) #[tt,tt,tt,tt,tt,tt,tt,tt,tt,tt,tt,ff,ff,ff,ff,ff,ff,ff,ff,ff,ff,ff,ff,ff,ff,ff,ff,ff,ff,ff,ff,ff,ff,ff] rfl rfl (take_ofW HT_.out HW_.out (by kernel_rfl)) (fun _ _ _ h => h) (Or.inl ⟨by rfl, ?_⟩) hHeld ?_ ?_
                  rotate_left; exact slt6; rotate_left; exact sla
                  refine pure_ (i := 11) (N := some 115) (v := ?_) (a' := ?_) #[tt,tt,tt,tt,tt,tt,tt,tt,tt,tt,tt,tt,ff,ff,ff,ff,ff,ff,ff,ff,ff,ff,ff,ff,ff,ff,ff,ff,ff,ff,ff,ff,ff,ff] rfl rfl (any_of HT_.out (by kernel_rfl)) (fun _ _ _ h => h) (Or.inl ⟨by rfl, ?_⟩) ?_ ?_
                  rotate_left; exact slv; rotate_left; exact sla
                  refine pure_ (i := 12) (N := some 116) (v := ?_) (a' := ?_) #[tt,tt,tt,tt,tt,tt,tt,tt,tt,tt,tt,tt,tt,ff,ff,ff,ff,ff,ff,ff,ff,ff,ff,ff,ff,ff,ff,ff,ff,ff,ff,ff,ff,ff] rfl rfl (any_of HT_.out (by kernel_rfl)) (fun _ _ _ h => h) (Or.inl ⟨by rfl, ?_⟩) ?_ ?_
                  rotate_left; exact slv; rotate_left; exact sla
                  refine pure_ (i := 13) (N := some 117) (v := ?_) (a' := ?_) #[tt,tt,tt,tt,tt,tt,tt,tt,tt,tt,tt,tt,tt,tt,ff,ff,ff,ff,ff,ff,ff,ff,ff,ff,ff,ff,ff,ff,ff,ff,ff,ff,ff,ff] rfl rfl (any_of HT_.out (by kernel_rfl)) (fun _ _ _ h => h) (Or.inl ⟨by rfl, ?_⟩) ?_ ?_
                  rotate_left; exact slv; rotate_left; exact sla
                  refine pure_ (i := 14) (N := some 118) (v := ?_) (a' := ?_) #[tt,tt,tt,tt,tt,tt,tt,tt,tt,tt,tt,tt,tt,tt,tt,ff,ff,ff,ff,ff,ff,ff,ff,ff,ff,ff,ff,ff,ff,ff,ff,ff,ff,ff] rfl rfl (any_of HT_.out (by kernel_rfl)) (fun _ _ _ h => h) (Or.inl ⟨by rfl, ?_⟩) ?_ ?_
                  rotate_left; exact slv; rotate_left; exact sla
                  refine pure_ (i := 15) (N := some 119) (v := ?_) (a' := ?_) #[tt,tt,tt,tt,tt,tt,tt,tt,tt,tt,tt,tt,tt,tt,tt,tt,ff,ff,ff,ff,ff,ff,ff,ff,ff,ff,ff,ff,ff,ff,ff,ff,ff,ff] rfl rfl (any_of HT_.out (by kernel_rfl)) (fun _ _ _ h => h) (Or.inl ⟨by rfl, ?_⟩) ?_ ?_
                  rotate_left; exact slv; rotate_left; exact sla
                  refine pure_ (i := 16) (N := some 120) (v := ?_) (a' := ?_) #[tt,tt,tt,tt,tt,tt,tt,tt,tt,tt,tt,tt,tt,tt,tt,tt,tt,ff,ff,ff,ff,ff,ff,ff,ff,ff,ff,ff,ff,ff,ff,ff,ff,ff] rfl rfl (any_of HT_.out (by kernel_rfl)) (fun _ _ _ h => h) (Or.inl ⟨by rfl, ?_⟩) ?_ ?_
                  rotate_left; exact slv; rotate_left; exact sla
                  refine pure_ (i := 17) (N := some 121) (v := ?_) (a' := ?_) #[tt,tt,tt,tt,tt,tt,tt,tt,tt,tt,tt,tt,tt,tt,tt,tt,tt,tt,ff,ff,ff,ff,ff,ff,ff,ff,ff,ff,ff,ff,ff,ff,ff,ff] rfl rfl (any_of HT_.out (by kernel_rfl)) (fun _ _ _ h => h) (Or.inl ⟨by rfl, ?_⟩) ?_ ?_
                  rotate_left; exact slv; rotate_left; exact sla
                  refine pure_ (i := 18) (N := some 122) (v := ?_) (a' := ?_) #[tt,tt,tt,tt,tt,tt,tt,tt,tt,tt,tt,tt,tt,tt,tt,tt,tt,tt,tt,ff,ff,ff,ff,ff,ff,ff,ff,ff,ff,ff,ff,ff,ff,ff] rfl rfl (any_of HT_.out (by kernel_rfl)) (fun _ _ _ h => h) (Or.inl ⟨by rfl, ?_⟩) ?_ ?_
                  rotate_left; exact slv; rotate_left; exact sla
                  refine pure_ (i := 22) (N := some 126) (v := ?_) (a' := ?_) #[tt,tt,tt,tt,tt,tt,tt,tt,tt,tt,tt,tt,tt,tt,tt,tt,tt,tt,tt,ff,ff,ff,tt,ff,ff,ff,ff,ff,ff,ff,ff,ff,ff,ff] rfl rfl (any_of HT_.out (by kernel_rfl)) (fun _ _ _ h => h) (Or.inl ⟨by rfl, ?_⟩) ?_ ?_
                  rotate_left; exact slv; rotate_left; exact sla
                  refine pure_ (i := 25) (N := some 129) (v := ?_) (a' := ?_) #[tt,tt,tt,tt,tt,tt,tt,tt,tt,tt,tt,tt,tt,tt,tt,tt,tt,tt,tt,ff,ff,ff,tt,ff,ff,tt,ff,ff,ff,ff,ff,ff,ff,ff] rfl rfl (any_of HT_.out (by kernel_rfl)) (fun _ _ _ h => h) (Or.inl ⟨by rfl, ?_⟩) ?_ ?_
                  rotate_left; exact slv; rotate_left; exact sla
                  refine pure_ (i := 26) (N := some 130) (v := ?_) (a' := ?_) #[tt,tt,tt,tt,tt,tt,tt,tt,tt,tt,tt,tt,tt,tt,tt,tt,tt,tt,tt,ff,ff,ff,tt,ff,ff,tt,tt,ff,ff,ff,ff,ff,ff,ff] rfl rfl (any_of HT_.out (by kernel_rfl)) (fun _ _ _ h => h) (Or.inl ⟨by rfl, ?_⟩) ?_ ?_
                  rotate_left; exact slv; rotate_left; exact sla
                  refine pure_ (i := 27) (N := some 131) (v := ?_) (a' := ?_) #[tt,tt,tt,tt,tt,tt,tt,tt,tt,tt,tt,tt,tt,tt,tt,tt,tt,tt,tt,ff,ff,ff,tt,ff,ff,tt,tt,tt,ff,ff,ff,ff,ff,ff] rfl rfl (any_of HT_.out (by kernel_rfl)) (fun _ _ _ h => h) (Or.inl ⟨by rfl, ?_⟩) ?_ ?_
                  rotate_left; exact slv; rotate_left; exact sla
                  refine pure_ (i := 30) (N := some 134) (v := ?_) (a' := ?_) #[tt,tt,tt,tt,tt,tt,tt,tt,tt,tt,tt,tt,tt,tt,tt,tt,tt,tt,tt,ff,ff,ff,tt,ff,ff,tt,tt,tt,ff,ff,tt,ff,ff,ff] rfl rfl (any_of HT_.out (by kernel_rfl)) (fun _ _ _ h => h) (Or.inl ⟨by rfl, ?_⟩) ?_ ?_
                  rotate_left; exact slv; rotate_left; exact sla
                  refine take_ (i := 19) (N := some 123) (v := ?_) (a' := ?_) #[tt,tt,tt,tt,tt,tt,tt,tt,tt,tt,tt,tt,tt,tt,tt,tt,tt,tt,tt,tt,ff,ff,tt,ff,ff,tt,tt,tt,ff,ff,tt,ff,ff,ff] rfl rfl (take_ofW HT_.out HW_.out (by kernel_rfl)) (fun _ _ _ h => h) (Or.inl ⟨by rfl, ?_⟩) hHeld ?_ ?_
                  rotate_left; exact slt6; rotate_left; exact sla
                  refine pure_ (i := 20) (N := some 124) (v := ?_) (a' := ?_) #[tt,tt,tt,tt,tt,tt,tt,tt,tt,tt,tt,tt,tt,tt,tt,tt,tt,tt,tt,tt,tt,ff,tt,ff,ff,tt,tt,tt,ff,ff,tt,ff,ff,ff] rfl rfl (any_of HT_.out (by kernel_rfl)) (fun _ _ _ h => h) (Or.inl ⟨by rfl, ?_⟩) ?_ ?_
                  rotate_left; exact slv; rotate_left; exact sla
                  refine take_ (i := 21) (N := some 125) (v := ?_) (a' := ?_) #[tt,tt,tt,tt,tt,tt,tt,tt,tt,tt,tt,tt,tt,tt,tt,tt,tt,tt,tt,tt,tt,tt,tt,ff,ff,tt,tt,tt,ff,ff,tt,ff,ff,ff] rfl rfl (take_ofW HT_.out HW_.out (by kernel_rfl)) (fun _ _ _ h => h) (Or.inl ⟨by rfl, ?_⟩) hHeld ?_ ?_
                  rotate_left; exact slt6; rotate_left; exact sla
                  refine take_ (i := 23) (N := some 127) (v := ?_) (a' := ?_) #[tt,tt,tt,tt,tt,tt,tt,tt,tt,tt,tt,tt,tt,tt,tt,tt,tt,tt,tt,tt,tt,tt,tt,tt,ff,tt,tt,tt,ff,ff,tt,ff,ff,ff] rfl rfl (take_ofW HT_.out HW_.out (by kernel_rfl)) (fun _ _ _ h => h) (Or.inl ⟨by rfl, ?_⟩) hHeld ?_ ?_
                  rotate_left; exact slt6; rotate_left; exact sla
                  refine pure_ (i := 24) (N := some 128) (v := ?_) (a' := ?_) #[tt,tt,tt,tt,tt,tt,tt,tt,tt,tt,tt,tt,tt,tt,tt,tt,tt,tt,tt,tt,tt,tt,tt,tt,tt,tt,tt,tt,ff,ff,tt,ff,ff,ff] rfl rfl (any_of HT_.out (by kernel_rfl)) (fun _ _ _ h => h) (Or.inl ⟨by rfl, ?_⟩) ?_ ?_
                  rotate_left; exact slv; rotate_left; exact sla
                  refine take_ (i := 28) (N := some 132) (v := ?_) (a' := ?_) #[tt,tt,tt,tt,tt,tt,tt,tt,tt,tt,tt,tt,tt,tt,tt,tt,tt,tt,tt,tt,tt,tt,tt,tt,tt,tt,tt,tt,tt,ff,tt,ff,ff,ff] rfl rfl (take_ofW HT_.out HW_.out (by kernel_rfl)) (fun _ _ _ h => h) (Or.inl ⟨by rfl, ?_⟩) hHeld ?_ ?_
                  rotate_left; exact slt6; rotate_left; exact sla
                  refine pure_ (i := 29) (N := some 133) (v := ?_) (a' := ?_) #[tt,tt,tt,tt,tt,tt,tt,tt,tt,tt,tt,tt,tt,tt,tt,tt,tt,tt,tt,tt,tt,tt,tt,tt,tt,tt,tt,tt,tt,tt,tt,ff,ff,ff] rfl rfl (any_of HT_.out (by kernel_rfl)) (fun _ _ _ h => h) (Or.inl ⟨by rfl, ?_⟩) ?_ ?_
                  rotate_left; exact slv; rotate_left; exact sla
                  refine pure_ (i := 31) (N := some 135) (v := ?_) (a' := ?_) #[tt,tt,tt,tt,tt,tt,tt,tt,tt,tt,tt,tt,tt,tt,tt,tt,tt,tt,tt,tt,tt,tt,tt,tt,tt,tt,tt,tt,tt,tt,tt,tt,ff,ff] rfl rfl (any_of HT_.out (by kernel_rfl)) (fun _ _ _ h => h) (Or.inl ⟨by rfl, ?_⟩) ?_ ?_
                  rotate_left; exact slv; rotate_left; exact sla
                  refine pure_ (i := 32) (N := some 136) (v := ?_) (a' := ?_) #[tt,tt,tt,tt,tt,tt,tt,tt,tt,tt,tt,tt,tt,tt,tt,tt,tt,tt,tt,tt,tt,tt,tt,tt,tt,tt,tt,tt,tt,tt,tt,tt,tt,ff] rfl rfl (any_of HT_.out (by kernel_rfl)) (fun _ _ _ h => h) (Or.inl ⟨by rfl, ?_⟩) ?_ ?_
                  rotate_left; exact slv; rotate_left; exact sla
                  refine pure_ (i := 33) (N := some 137) (v := ?_) (a' := ?_) #[tt,tt,tt,tt,tt,tt,tt,tt,tt,tt,tt,tt,tt,tt,tt,tt,tt,tt,tt,tt,tt,tt,tt,tt,tt,tt,tt,tt,tt,tt,tt,tt,tt,tt] rfl rfl (any_of HT_.out (by kernel_rfl)) (fun _ _ _ h => h) (Or.inl ⟨by rfl, ?_⟩) ?_ ?_
                  rotate_left; exact slv; rotate_left; exact sla
                  refine done_ (done_of HT_.out (by kernel_rfl)) ?_
                  try clear hHeld hw1 hw2
                  go_wp2_with ((with_reducible refine gate_upon ?_); go_simp)
                  have hw1 := HW1.out
                  have hw2 := HW2.out
                  refine start_ (n := 14) (S := fun w' => w'.cell? ⟨gw, i, none⟩ = some (.int .i64 dv) ∧ w'.cell? ⟨gw, m1.toNat, none⟩ = some (.int .i64 dm) ∧ w'.cell? ⟨gb, i, none⟩ = some (.int .i64 bv) ∧ w'.cell? ⟨gi, i, none⟩ = some (.int .i64 iv) ∧ w'.cell? ⟨w.heap.size + 1, 0, none⟩ = some (.int .i64 m1) ∧ w'.cell? ⟨w.heap.size + 1, 2, none⟩ = some (.int .i64 m3)) (ds := []) #[ff,ff,ff,ff,ff,ff,ff,ff,ff,ff,ff,ff,ff,ff] (by kernel_rfl) rfl rfl ⟨(HFI.out _ HB8.out).1, (HFI.out _ HB8.out).2.1, (HFI.out _ HB8.out).2.2.1, (HFI.out _ HB8.out).2.2.2.1, (HFI.out _ HB8.out).2.2.2.2.1, (HFI.out _ HB8.out).2.2.2.2.2⟩ (fun hHeld => ?_)
                  refine with_tabW more.tab18 more.bits18 (fun HT_ HW_ => ?_)
                  have HB9 : Aside0 (Below w7.heap.size w7 w8.drew) := ⟨below_drew HB8.out⟩
                  generalize w8.drew = w9 at HB9 hHeld ⊢
                  refine pure_ (i := 0) (N := some 138) (v := ?_) (a' := ?_) #[tt,ff,ff,ff,ff,ff,ff,ff,ff,ff,ff,ff,ff,ff] rfl rfl (any_of HT_.out (by kernel_rfl)) (fun _ _ _ h => h) (Or.inl ⟨by rfl, ?_⟩) ?_ ?_
                  rotate_left; exact slv; rotate_left; exact sla
                  refine pure_ (i := 1) (N := some 139) (v := ?_) (a' := ?_) #[tt,tt,ff,ff,ff,ff,ff,ff,ff,ff,ff,ff,ff,ff] rfl rfl (any_of HT_.out (by kernel_rfl)) (fun _ _ _ h => h) (Or.inl ⟨by rfl, ?_⟩) ?_ ?_
                  rotate_left; exact slv; rotate_left; exact sla
                  refine pure_ (i := 5) (N := some 143) (v := ?_) (a' := ?_) #[tt,tt,ff,ff,ff,tt,ff,ff,ff,ff,ff,ff,ff,ff] rfl rfl (any_of HT_.out (by kernel_rfl)) (fun _ _ _ h => h) (Or.inl ⟨by rfl, ?_⟩) ?_ ?_
                  rotate_left; exact slv; rotate_left; exact sla
                  refine pure_ (i := 8) (N := some 146) (v := ?_) (a' := ?_) #[tt,tt,ff,ff,ff,tt,ff,ff,tt,ff,ff,ff,ff,ff] rfl rfl (any_of HT_.out (by kernel_rfl)) (fun _ _ _ h => h) (Or.inl ⟨by rfl, ?_⟩) ?_ ?_
                  rotate_left; exact slv; rotate_left; exact sla
                  refine pure_ (i := 9) (N := some 147) (v := ?_) (a' := ?_) #[tt,tt,ff,ff,ff,tt,ff,ff,tt,tt,ff,ff,ff,ff] rfl rfl (any_of HT_.out (by kernel_rfl)) (fun _ _ _ h => h) (Or.inl ⟨by rfl, ?_⟩) ?_ ?_
                  rotate_left; exact slv; rotate_left; exact sla
                  refine pure_ (i := 10) (N := some 148) (v := ?_) (a' := ?_) #[tt,tt,ff,ff,ff,tt,ff,ff,tt,tt,tt,ff,ff,ff] rfl rfl (any_of HT_.out (by kernel_rfl)) (fun _ _ _ h => h) (Or.inl ⟨by rfl, ?_⟩) ?_ ?_
                  rotate_left; exact slv; rotate_left; exact sla
                  refine take_ (i := 2) (N := some 140) (v := ?_) (a' := ?_) #[tt,tt,tt,ff,ff,tt,ff,ff,tt,tt,tt,ff,ff,ff] rfl rfl (take_ofW HT_.out HW_.out (by kernel_rfl)) (fun _ _ _ h => h) (Or.inl ⟨by rfl, ?_⟩) hHeld ?_ ?_
                  rotate_left; exact slt6; rotate_left; exact sla
                  refine pure_ (i := 3) (N := some 141) (v := ?_) (a' := ?_) #[tt,tt,tt,tt,ff,tt,ff,ff,tt,tt,tt,ff,ff,ff] rfl rfl (any_of HT_.out (by kernel_rfl)) (fun _ _ _ h => h) (Or.inl ⟨by rfl, ?_⟩) ?_ ?_
                  rotate_left; exact slv; rotate_left; exact sla
                  refine take_ (i := 4) (N := some 142) (v := ?_) (a' := ?_) #[tt,tt,tt,tt,tt,tt,ff,ff,tt,tt,tt,ff,ff,ff] rfl rfl (take_ofW HT_.out HW_.out (by kernel_rfl)) (fun _ _ _ h => h) (Or.inl ⟨by rfl, ?_⟩) hHeld ?_ ?_
                  rotate_left; exact slt6; rotate_left; exact sla
                  refine take_ (i := 6) (N := some 144) (v := ?_) (a' := ?_) #[tt,tt,tt,tt,tt,tt,tt,ff,tt,tt,tt,ff,ff,ff] rfl rfl (take_ofW HT_.out HW_.out (by kernel_rfl)) (fun _ _ _ h => h) (Or.inl ⟨by rfl, ?_⟩) hHeld ?_ ?_
                  rotate_left; exact slt6; rotate_left; exact sla
                  refine pure_ (i := 7) (N := some 145) (v := ?_) (a' := ?_) #[tt,tt,tt,tt,tt,tt,tt,tt,tt,tt,tt,ff,ff,ff] rfl rfl (any_of HT_.out (by kernel_rfl)) (fun _ _ _ h => h) (Or.inl ⟨by rfl, ?_⟩) ?_ ?_
                  rotate_left; exact slv; rotate_left; exact sla
                  refine take_ (i := 11) (N := some 149) (v := ?_) (a' := ?_) #[tt,tt,tt,tt,tt,tt,tt,tt,tt,tt,tt,tt,ff,ff] rfl rfl (take_ofW HT_.out HW_.out (by kernel_rfl)) (fun _ _ _ h => h) (Or.inl ⟨by rfl, ?_⟩) hHeld ?_ ?_
                  rotate_left; exact slt6; rotate_left; exact sla
                  refine pure_ (i := 12) (N := some 150) (v := ?_) (a' := ?_) #[tt,tt,tt,tt,tt,tt,tt,tt,tt,tt,tt,tt,tt,ff] rfl rfl (any_of HT_.out (by kernel_rfl)) (fun _ _ _ h => h) (Or.inl ⟨by rfl, ?_⟩) ?_ ?_
                  rotate_left; exact slv; rotate_left; exact sla
                  refine pure_ (i := 13) (N := some 17) (v := ?_) (a' := ?_) #[tt,tt,tt,tt,tt,tt,tt,tt,tt,tt,tt,tt,tt,tt] rfl rfl (any_of HT_.out (by kernel_rfl)) (fun _ _ _ h => h) (Or.inl ⟨by rfl, ?_⟩) ?_ ?_
                  rotate_left; exact slv; rotate_left; exact sla
                  refine done_ (done_of HT_.out (by kernel_rfl)) ?_
                  try clear hHeld hw1 hw2
                  have qi := (HFI.out w9 HB9.out).2.2.2.1
                  have dz : (iv != dm + m3 + bv) = false := by rw [bne_eq_false_iff_eq]; exact HE.out
                  have hwi := HWI.out
                  go_wp2_with ((with_reducible refine gate_upon ?_); go_simp)
                  go_roundg gk2
                  case measure => first | exact Nat.lt_succ_self _ | omega
                  case rel => exact ⟨i + 1, rfl, by first | rfl | (simp; done) | (rw [hwi]; rfl), HI1, HB9⟩
                · have c4 : decide (dm + m3 + bv < dv) = false := decide_eq_false a4
                  have HE : Aside0 (iv = dv) := ⟨by rw [HMO.out, if_neg (fun q => q.2.2.elim a3 a4)]⟩
                  clear a1 a2 a3 a4
                  have hw1 := HW1.out
                  have hw2 := HW2.out
                  refine start_ (n := 34) (S := fun w' => w'.cell? ⟨gw, i, none⟩ = some (.int .i64 dv) ∧ w'.cell? ⟨gw, m1.toNat, none⟩ = some (.int .i64 dm) ∧ w'.cell? ⟨gb, i, none⟩ = some (.int .i64 bv) ∧ w'.cell? ⟨gi, i, none⟩ = some (.int .i64 iv) ∧ w'.cell? ⟨w.heap.size + 1, 0, none⟩ = some (.int .i64 m1) ∧ w'.cell? ⟨w.heap.size + 1, 2, none⟩ = some (.int .i64 m3)) (ds := []) #[ff,ff,ff,ff,ff,ff,ff,ff,ff,ff,ff,ff,ff,ff,ff,ff,ff,ff,ff,ff,ff,ff,ff,ff,ff,ff,ff,ff,ff,ff,ff,ff,ff,ff] (by kernel_rfl) rfl rfl ⟨(HFI.out _ HBW.out).1, (HFI.out _ HBW.out).2.1, (HFI.out _ HBW.out).2.2.1, (HFI.out _ HBW.out).2.2.2.1, (HFI.out _ HBW.out).2.2.2.2.1, (HFI.out _ HBW.out).2.2.2.2.2⟩ (fun hHeld => ?_)
                  refine with_tabW more.tab17 more.bits17 (fun HT_ HW_ => ?_)
                  have HB8 : Aside0 (Below w7.heap.size w7 wr.drew) := ⟨below_drew HBW.out⟩
                  generalize wr.drew = w8 at HB8 hHeld ⊢
                  refine pure_ (i := 0) (N := some 104) (v := ?_) (a' := ?_) #[tt,ff,ff,ff,ff,ff,ff,ff,ff,ff,ff,ff,ff,ff,ff,ff,ff,ff,ff,ff,ff,ff,ff,ff,ff,ff,ff,ff,ff,ff,ff,ff,ff,ff] rfl rfl (any_of HT_.out (by kernel_rfl)) (fun _ _ _ h => h) (Or.inl ⟨by rfl, ?_⟩) ?_ ?_
                  rotate_left; exact slv; rotate_left; exact sla
                  refine pure_ (i := 1) (N := some 105) (v := ?_) (a' := ?_) #[tt,tt,ff,ff,ff,ff,ff,ff,ff,ff,ff,ff,ff,ff,ff,ff,ff,ff,ff,ff,ff,ff,ff,ff,ff,ff,ff,ff,ff,ff,ff,ff,ff,ff] rfl rfl (any_of HT_.out (by kernel_rfl)) (fun _ _ _ h => h) (Or.inl ⟨by rfl, ?_⟩) ?_ ?_
                  rotate_left; exact slv; rotate_left; exact sla
                  refine take_ (i := 2) (N := some 106) (v := ?_) (a' := ?_) #[tt,tt,tt,ff,ff,ff,ff,ff,ff,ff,ff,ff,ff,ff,ff,ff,ff,ff,ff,ff,ff,ff,ff,ff,ff,ff,ff,ff,ff,ff,ff,ff,ff,ff] rfl rfl (take_ofW HT_.out HW_.out (by kernel_rfl)) (fun _ _ _ h => h) (Or.inl ⟨by rfl, ?_⟩) hHeld ?_ ?_
                  rotate_left; exact slt6; rotate_left; exact sla
                  refine pure_ (i := 3) (N := some 107) (v := ?_) (a' := ?_) #[tt,tt,tt,tt,ff,ff,ff,ff,ff,ff,ff,ff,ff,ff,ff,ff,ff,ff,ff,ff,ff,ff,ff,ff,ff,ff,ff,ff,ff,ff,ff,ff,ff,ff] rfl rfl (any_of HT_.out (by kernel_rfl)) (fun _ _ _ h => h) (Or.inl ⟨by rfl, ?_⟩) ?_ ?_
                  rotate_left; exact slv; rotate_left; exact sla
                  refine take_ (i := 4) (N := some 108) (v := ?_) (a' := ?_) #[tt,tt,tt,tt,tt,ff,ff,ff,ff,ff,ff,ff,ff,ff,ff,ff,ff,ff,ff,ff,ff,ff,ff,ff,ff,ff,ff,ff,ff,ff,ff,ff,ff,ff] rfl rfl (take_ofW HT_.out HW_.out (by kernel_rfl)) (fun _ _ _ h => h) (Or.inl ⟨by rfl, ?_⟩) hHeld ?_ ?_
                  rotate_left; exact slt6; rotate_left; exact sla
                  refine pure_ (i := 5) (N := some 109) (v := ?_) (a' := ?_) #[tt,tt,tt,tt,tt,tt,ff,ff,ff,ff,ff,ff,ff,ff,ff,ff,ff,ff,ff,ff,ff,ff,ff,ff,ff,ff,ff,ff,ff,ff,ff,ff,ff,ff] rfl rfl (any_of HT_.out (by kernel_rfl)) (fun _ _ _ h => h) (Or.inl ⟨by rfl, ?_⟩) ?_ ?_
                  rotate_left; exact slv; rotate_left; exact sla
                  refine pure_ (i := 6) (N := some 110) (v := ?_) (a' := ?_) #[tt,tt,tt,tt,tt,tt,tt,ff,ff,ff,ff,ff,ff,ff,ff,ff,ff,ff,ff,ff,ff,ff,ff,ff,ff,ff,ff,ff,ff,ff,ff,ff,ff,ff] rfl rfl (any_of HT_.out (by kernel_rfl)) (fun _ _ _ h => h) (Or.inl ⟨by rfl, ?_⟩) ?_ ?_
                  rotate_left; exact slv; rotate_left; exact sla
                  refine pure_ (i := 7) (N := some 111) (v := ?_) (a' := ?_) #[tt,tt,tt,tt,tt,tt,tt,tt,ff,ff,ff,ff,ff,ff,ff,ff,ff,ff,ff,ff,ff,ff,ff,ff,ff,ff,ff,ff,ff,ff,ff,ff,ff,ff] rfl rfl (any_of HT_.out (by kernel_rfl)) (fun _ _ _ h => h) (Or.inl ⟨by rfl, ?_⟩) ?_ ?_
                  rotate_left; exact slv; rotate_left; exact sla
                  refine pure_ (i := 8) (N := some 112) (v := ?_) (a' := ?_) #[tt,tt,tt,tt,tt,tt,tt,tt,tt,ff,ff,ff,ff,ff,ff,ff,ff,ff,ff,ff,ff,ff,ff,ff,ff,ff,ff,ff,ff,ff,ff,ff,ff,ff] rfl rfl (any_of HT_.out (by kernel_rfl)) (fun _ _ _ h => h) (Or.inl ⟨by rfl, ?_⟩) ?_ ?_
                  rotate_left; exact slv; rotate_left; exact sla
                  refine pure_ (i := 9) (N := some 113) (v := ?_) (a' := ?_) #[tt,tt,tt,tt,tt,tt,tt,tt,tt,tt,ff,ff,ff,ff,ff,ff,ff,ff,ff,ff,ff,ff,ff,ff,ff,ff,ff,ff,ff,ff,ff,ff,ff,ff] rfl rfl (any_of HT_.out (by kernel_rfl)) (fun _ _ _ h => h) (Or.inl ⟨by rfl, ?_⟩) ?_ ?_
                  rotate_left; exact slv; rotate_left; exact sla
                  refine take_ (i := 10) (N := some 114) (v := ?_) (a' := ?_) #[tt,tt,tt,tt,tt,tt,tt,tt,tt,tt,tt,ff,ff,ff,ff,ff,ff,ff,ff,ff,ff,ff,ff,ff,ff,ff,ff,ff,ff,ff,ff,ff,ff,ff] rfl rfl (take_ofW HT_.out HW_.out (by kernel_rfl)) (fun _ _ _ h => h) (Or.inl ⟨by rfl, ?_⟩) hHeld ?_ ?_
                  rotate_left; exact slt6; rotate_left; exact sla
                  refine pure_ (i := 11) (N := some 115) (v := ?_) (a' := ?_) #[tt,tt,tt,tt,tt,tt,tt,tt,tt,tt,tt,tt,ff,ff,ff,ff,ff,ff,ff,ff,ff,ff,ff,ff,ff,ff,ff,ff,ff,ff,ff,ff,ff,ff] rfl rfl (any_of HT_.out (by kernel_rfl)) (fun _ _ _ h => h) (Or.inl ⟨by rfl, ?_⟩) ?_ ?_
                  rotate_left; exact slv; rotate_left; exact sla
                  refine pure_ (i := 12) (N := some 116) (v := ?_) (a' := ?_) #[tt,tt,tt,tt,tt,tt,tt,tt,tt,tt,tt,tt,tt,ff,ff,ff,ff,ff,ff,ff,ff,ff,ff,ff,ff,ff,ff,ff,ff,ff,ff,ff,ff,ff] rfl rfl (any_of HT_.out (by kernel_rfl)) (fun _ _ _ h => h) (Or.inl ⟨by rfl, ?_⟩) ?_ ?_
                  rotate_left; exact slv; rotate_left; exact sla
                  refine pure_ (i := 13) (N := some 117) (v := ?_) (a' := ?_) #[tt,tt,tt,tt,tt,tt,tt,tt,tt,tt,tt,tt,tt,tt,ff,ff,ff,ff,ff,ff,ff,ff,ff,ff,ff,ff,ff,ff,ff,ff,ff,ff,ff,ff] rfl rfl (any_of HT_.out (by kernel_rfl)) (fun _ _ _ h => h) (Or.inl ⟨by rfl, ?_⟩) ?_ ?_
                  rotate_left; exact slv; rotate_left; exact sla
                  refine pure_ (i := 14) (N := some 118) (v := ?_) (a' := ?_) #[tt,tt,tt,tt,tt,tt,tt,tt,tt,tt,tt,tt,tt,tt,tt,ff,ff,ff,ff,ff,ff,ff,ff,ff,ff,ff,ff,ff,ff,ff,ff,ff,ff,ff] rfl rfl (any_of HT_.out (by kernel_rfl)) (fun _ _ _ h => h) (Or.inl ⟨by rfl, ?_⟩) ?_ ?_
                  rotate_left; exact slv; rotate_left; exact sla
                  refine pure_ (i := 15) (N := some 119) (v := ?_) (a' := ?_) #[tt,tt,tt,tt,tt,tt,tt,tt,tt,tt,tt,tt,tt,tt,tt,tt,ff,ff,ff,ff,ff,ff,ff,ff,ff,ff,ff,ff,ff,ff,ff,ff,ff,ff] rfl rfl (any_of HT_.out (by kernel_rfl)) (fun _ _ _ h => h) (Or.inl ⟨by rfl, ?_⟩) ?_ ?_
                  rotate_left; exact slv; rotate_left; exact sla
                  refine pure_ (i := 16) (N := some 120) (v := ?_) (a' := ?_) #[tt,tt,tt,tt,tt,tt,tt,tt,tt,tt,tt,tt,tt,tt,tt,tt,tt,ff,ff,ff,ff,ff,ff,ff,ff,ff,ff,ff,ff,ff,ff,ff,ff,ff] rfl rfl (any_of HT_.out (by kernel_rfl)) (fun _ _ _ h => h) (Or.inl ⟨by rfl, ?_⟩) ?_ ?_
                  rotate_left; exact slv; rotate_left; exact sla
                  refine pure_ (i := 17) (N := some 121) (v := ?_) (a' := ?_) #[tt,tt,tt,tt,tt,tt,tt,tt,tt,tt,tt,tt,tt,tt,tt,tt,tt,tt,ff,ff,ff,ff,ff,ff,ff,ff,ff,ff,ff,ff,ff,ff,ff,ff] rfl rfl (any_of HT_.out (by kernel_rfl)) (fun _ _ _ h => h) (Or.inl ⟨by rfl, ?_⟩) ?_ ?_
                  rotate_left; exact slv; rotate_left; exact sla
                  refine pure_ (i := 18) (N := some 122) (v := ?_) (a' := ?_) #[tt,tt,tt,tt,tt,tt,tt,tt,tt,tt,tt,tt,tt,tt,tt,tt,tt,tt,tt,ff,ff,ff,ff,ff,ff,ff,ff,ff,ff,ff,ff,ff,ff,ff] rfl rfl (any_of HT_.out (by kernel_rfl)) (fun _ _ _ h => h) (Or.inl ⟨by rfl, ?_⟩) ?_ ?_
                  rotate_left; exact slv; rotate_left; exact sla
                  refine pure_ (i := 22) (N := some 126) (v := ?_) (a' := ?_) #[tt,tt,tt,tt,tt,tt,tt,tt,tt,tt,tt,tt,tt,tt,tt,tt,tt,tt,tt,ff,ff,ff,tt,ff,ff,ff,ff,ff,ff,ff,ff,ff,ff,ff] rfl rfl (any_of HT_.out (by kernel_rfl)) (fun _ _ _ h => h) (Or.inl ⟨by rfl, ?_⟩) ?_ ?_
                  rotate_left; exact slv; rotate_left; exact sla
                  refine pure_ (i := 25) (N := some 129) (v := ?_) (a' := ?_) #[tt,tt,tt,tt,tt,tt,tt,tt,tt,tt,tt,tt,tt,tt,tt,tt,tt,tt,tt,ff,ff,ff,tt,ff,ff,tt,ff,ff,ff,ff,ff,ff,ff,ff] rfl rfl (any_of HT_.out (by kernel_rfl)) (fun _ _ _ h => h) (Or.inl ⟨by rfl, ?_⟩) ?_ ?_
                  rotate_left; exact slv; rotate_left; exact sla
                  refine pure_ (i := 26) (N := some 130) (v := ?_) (a' := ?_) #[tt,tt,tt,tt,tt,tt,tt,tt,tt,tt,tt,tt,tt,tt,tt,tt,tt,tt,tt,ff,ff,ff,tt,ff,ff,tt,tt,ff,ff,ff,ff,ff,ff,ff] rfl rfl (any_of HT_.out (by kernel_rfl)) (fun _ _ _ h => h) (Or.inl ⟨by rfl, ?_⟩) ?_ ?_
                  rotate_left; exact slv; rotate_left; exact sla
                  refine pure_ (i := 27) (N := some 131) (v := ?_) (a' := ?_) #[tt,tt,tt,tt,tt,tt,tt,tt,tt,tt,tt,tt,tt,tt,tt,tt,tt,tt,tt,ff,ff,ff,tt,ff,ff,tt,tt,tt,ff,ff,ff,ff,ff,ff] rfl rfl (any_of HT_.out (by kernel_rfl)) (fun _ _ _ h => h) (Or.inl ⟨by rfl, ?_⟩) ?_ ?_
                  rotate_left; exact slv; rotate_left; exact sla
                  refine pure_ (i := 30) (N := some 134) (v := ?_) (a' := ?_) #[tt,tt,tt,tt,tt,tt,tt,tt,tt,tt,tt,tt,tt,tt,tt,tt,tt,tt,tt,ff,ff,ff,tt,ff,ff,tt,tt,tt,ff,ff,tt,ff,ff,ff] rfl rfl (any_of HT_.out (by kernel_rfl)) (fun _ _ _ h => h) (Or.inl ⟨by rfl, ?_⟩) ?_ ?_
                  rotate_left; exact slv; rotate_left; exact sla
                  refine take_ (i := 19) (N := some 123) (v := ?_) (a' := ?_) #[tt,tt,tt,tt,tt,tt,tt,tt,tt,tt,tt,tt,tt,tt,tt,tt,tt,tt,tt,tt,ff,ff,tt,ff,ff,tt,tt,tt,ff,ff,tt,ff,ff,ff] rfl rfl (take_ofW HT_.out HW_.out (by kernel_rfl)) (fun _ _ _ h => h) (Or.inl ⟨by rfl, ?_⟩) hHeld ?_ ?_
                  rotate_left; exact slt6; rotate_left; exact sla
                  refine pure_ (i := 20) (N := some 124) (v := ?_) (a' := ?_) #[tt,tt,tt,tt,tt,tt,tt,tt,tt,tt,tt,tt,tt,tt,tt,tt,tt,tt,tt,tt,tt,ff,tt,ff,ff,tt,tt,tt,ff,ff,tt,ff,ff,ff] rfl rfl (any_of HT_.out (by kernel_rfl)) (fun _ _ _ h => h) (Or.inl ⟨by rfl, ?_⟩) ?_ ?_
                  rotate_left; exact slv; rotate_left; exact sla
                  refine take_ (i := 21) (N := some 125) (v := ?_) (a' := ?_) #[tt,tt,tt,tt,tt,tt,tt,tt,tt,tt,tt,tt,tt,tt,tt,tt,tt,tt,tt,tt,tt,tt,tt,ff,ff,tt,tt,tt,ff,ff,tt,ff,ff,ff] rfl rfl (take_ofW HT_.out HW_.out (by kernel_rfl)) (fun _ _ _ h => h) (Or.inl ⟨by rfl, ?_⟩) hHeld ?_ ?_
                  rotate_left; exact slt6; rotate_left; exact sla
                  refine take_ (i := 23) (N := some 127) (v := ?_) (a' := ?_) #[tt,tt,tt,tt,tt,tt,tt,tt,tt,tt,tt,tt,tt,tt,tt,tt,tt,tt,tt,tt,tt,tt,tt,tt,ff,tt,tt,tt,ff,ff,tt,ff,ff,ff] rfl rfl (take_ofW HT_.out HW_.out (by kernel_rfl)) (fun _ _ _ h => h) (Or.inl ⟨by rfl, ?_⟩) hHeld ?_ ?_
                  rotate_left; exact slt6; rotate_left; exact sla
                  refine pure_ (i := 24) (N := some 128) (v := ?_) (a' := ?_) #[tt,tt,tt,tt,tt,tt,tt,tt,tt,tt,tt,tt,tt,tt,tt,tt,tt,tt,tt,tt,tt,tt,tt,tt,tt,tt,tt,tt,ff,ff,tt,ff,ff,ff] rfl rfl (any_of HT_.out (by kernel_rfl)) (fun _ _ _ h => h) (Or.inl ⟨by rfl, ?_⟩) ?_ ?_
                  rotate_left; exact slv; rotate_left; exact sla
                  refine take_ (i := 28) (N := some 132) (v := ?_) (a' := ?_) #[tt,tt,tt,tt,tt,tt,tt,tt,tt,tt,tt,tt,tt,tt,tt,tt,tt,tt,tt,tt,tt,tt,tt,tt,tt,tt,tt,tt,tt,ff,tt,ff,ff,ff] rfl rfl (take_ofW HT_.out HW_.out (by kernel_rfl)) (fun _ _ _ h => h) (Or.inl ⟨by rfl, ?_⟩) hHeld ?_ ?_
                  rotate_left; exact slt6; rotate_left; exact sla
                  refine pure_ (i := 29) (N := some 133) (v := ?_) (a' := ?_) #[tt,tt,tt,tt,tt,tt,tt,tt,tt,tt,tt,tt,tt,tt,tt,tt,tt,tt,tt,tt,tt,tt,tt,tt,tt,tt,tt,tt,tt,tt,tt,ff,ff,ff] rfl rfl (any_of HT_.out (by kernel_rfl)) (fun _ _ _ h => h) (Or.inl ⟨by rfl, ?_⟩) ?_ ?_
                  rotate_left; exact slv; rotate_left; exact sla
                  refine pure_ (i := 31) (N := some 135) (v := ?_) (a' := ?_) #[tt,tt,tt,tt,tt,tt,tt,tt,tt,tt,tt,tt,tt,tt,tt,tt,tt,tt,tt,tt,tt,tt,tt,tt,tt,tt,tt,tt,tt,tt,tt,tt,ff,ff] rfl rfl (any_of HT_.out (by kernel_rfl)) (fun _ _ _ h => h) (Or.inl ⟨by rfl, ?_⟩) ?_ ?_
                  rotate_left; exact slv; rotate_left; exact sla
                  refine pure_ (i := 32) (N := some 136) (v := ?_) (a' := ?_) #[tt,tt,tt,tt,tt,tt,tt,tt,tt,tt,tt,tt,tt,tt,tt,tt,tt,tt,tt,tt,tt,tt,tt,tt,tt,tt,tt,tt,tt,tt,tt,tt,tt,ff] rfl rfl (any_of HT_.out (by kernel_rfl)) (fun _ _ _ h => h) (Or.inl ⟨by rfl, ?_⟩) ?_ ?_
                  rotate_left; exact slv; rotate_left; exact sla
                  refine pure_ (i := 33) (N := some 137) (v := ?_) (a' := ?_) #[tt,tt,tt,tt,tt,tt,tt,tt,tt,tt,tt,tt,tt,tt,tt,tt,tt,tt,tt,tt,tt,tt,tt,tt,tt,tt,tt,tt,tt,tt,tt,tt,tt,tt] rfl rfl (any_of HT_.out (by kernel_rfl)) (fun _ _ _ h => h) (Or.inl ⟨by rfl, ?_⟩) ?_ ?_
                  rotate_left; exact slv; rotate_left; exact sla
                  refine done_ (done_of HT_.out (by kernel_rfl)) ?_
                  try clear hHeld hw1 hw2
                  have qi := (HFI.out w8 HB8.out).2.2.2.1
                  have dz : (iv != dv) = false := by rw [bne_eq_false_iff_eq]; exact HE.out
                  have hwi := HWI.out
                  go_wp2_with ((with_reducible refine gate_upon ?_); go_simp)
                  go_roundg gk2
                  case measure => first | exact Nat.lt_succ_self _ | omega
                  case rel => exact ⟨i + 1, rfl, by first | rfl | (simp; done) | (rw [hwi]; rfl), HI1, HB8⟩
            · have c2 : decide (0 ≤ bv) = false := decide_eq_false a2
              have HE : Aside0 (iv = dv) := ⟨by rw [HMO.out, if_neg (fun q => a2 q.2.1)]⟩
              clear a1 a2
              have hw1 := HW1.out
              have hw2 := HW2.out
              refine start_ (n := 34) (S := fun w' => w'.cell? ⟨gw, i, none⟩ = some (.int .i64 dv) ∧ w'.cell? ⟨gw, m1.toNat, none⟩ = some (.int .i64 dm) ∧ w'.cell? ⟨gb, i, none⟩ = some (.int .i64 bv) ∧ w'.cell? ⟨gi, i, none⟩ = some (.int .i64 iv) ∧ w'.cell? ⟨w.heap.size + 1, 0, none⟩ = some (.int .i64 m1) ∧ w'.cell? ⟨w.heap.size + 1, 2, none⟩ = some (.int .i64 m3)) (ds := []) #[ff,ff,ff,ff,ff,ff,ff,ff,ff,ff,ff,ff,ff,ff,ff,ff,ff,ff,ff,ff,ff,ff,ff,ff,ff,ff,ff,ff,ff,ff,ff,ff,ff,ff] (by kernel_rfl) rfl rfl ⟨(HFI.out _ HBW.out).1, (HFI.out _ HBW.out).2.1, (HFI.out _ HBW.out).2.2.1, (HFI.out _ HBW.out).2.2.2.1, (HFI.out _ HBW.out).2.2.2.2.1, (HFI.out _ HBW.out).2.2.2.2.2⟩ (fun hHeld => ?_)
              refine with_tabW more.tab17 more.bits17 (fun HT_ HW_ => ?_)
              have HB8 : Aside0 (Below w7.heap.size w7 wr.drew) := ⟨below_drew HBW.out⟩
              generalize wr.drew = w8 at HB8 hHeld ⊢
              refine pure_ (i := 0) (N := some 104) (v := ?_) (a' := ?_) #[tt,ff,ff,ff,ff,ff,ff,ff,ff,ff,ff,ff,ff,ff,ff,ff,ff,ff,ff,ff,ff,ff,ff,ff,ff,ff,ff,ff,ff,ff,ff,ff,ff,ff] rfl rfl (any_of HT_.out (by kernel_rfl)) (fun _ _ _ h => h) (Or.inl ⟨by rfl, ?_⟩) ?_ ?_
              rotate_left; exact slv; rotate_left; exact sla
              refine pure_ (i := 1) (N := some 105) (v := ?_) (a' := ?_) #[tt,tt,ff,ff,ff,ff,ff,ff,ff,ff,ff,ff,ff,ff,ff,ff,ff,ff,ff,ff,ff,ff,ff,ff,ff,ff,ff,ff,ff,ff,ff,ff,ff,ff] rfl rfl (any_of HT_.out (by kernel_rfl)) (fun _ _ _ h => h) (Or.inl ⟨by rfl, ?_⟩) ?_ ?_
              rotate_left; exact slv; rotate_left; exact sla
              refine take_ (i := 2) (N := some 106) (v := ?_) (a' := ?_) #[tt,tt,tt,ff,ff,ff,ff,ff,ff,ff,ff,ff,ff,ff,ff,ff,ff,ff,ff,ff,ff,ff,ff,ff,ff,ff,ff,ff,ff,ff,ff,ff,ff,ff] rfl rfl (take_ofW HT_.out HW_.out (by kernel_rfl)) (fun _ _ _ h => h) (Or.inl ⟨by rfl, ?_⟩) hHeld ?_ ?_
              rotate_left; exact slt6; rotate_left; exact sla
              refine pure_ (i := 3) (N := some 107) (v := ?_) (a' := ?_) #[tt,tt,tt,tt,ff,ff,ff,ff,ff,ff,ff,ff,ff,ff,ff,ff,ff,ff,ff,ff,ff,ff,ff,ff,ff,ff,ff,ff,ff,ff,ff,ff,ff,ff] rfl rfl (any_of HT_.out (by kernel_rfl)) (fun _ _ _ h => h) (Or.inl ⟨by rfl, ?_⟩) ?_ ?_
              rotate_left; exact slv; rotate_left; exact sla
              refine take_ (i := 4) (N := some 108) (v := ?_) (a' := ?_) #[tt,tt,tt,tt,tt,ff,ff,ff,ff,ff,ff,ff,ff,ff,ff,ff,ff,ff,ff,ff,ff,ff,ff,ff,ff,ff,ff,ff,ff,ff,ff,ff,ff,ff] rfl rfl (take_ofW HT_.out HW_.out (by kernel_rfl)) (fun _ _ _ h => h) (Or.inl ⟨by rfl, ?_⟩) hHeld ?_ ?_
              rotate_left; exact slt6; rotate_left; exact sla
              refine pure_ (i := 5) (N := some 109) (v := ?_) (a' := ?_) #[tt,tt,tt,tt,tt,tt,ff,ff,ff,ff,ff,ff,ff,ff,ff,ff,ff,ff,ff,ff,ff,ff,ff,ff,ff,ff,ff,ff,ff,ff,ff,ff,ff,ff] rfl rfl (any_of HT_.out (by kernel_rfl)) (fun _ _ _ h => h) (Or.inl ⟨by rfl, ?_⟩) ?_ ?_
              rotate_left; exact slv; rotate_left; exact sla
              refine pure_ (i := 6) (N := some 110) (v := ?_) (a' := ?_) #[tt,tt,tt,tt,tt,tt,tt,ff,ff,ff,ff,ff,ff,ff,ff,ff,ff,ff,ff,ff,ff,ff,ff,ff,ff,ff,ff,ff,ff,ff,ff,ff,ff,ff] rfl rfl (any_of HT_.out (by kernel_rfl)) (fun _ _ _ h => h) (Or.inl ⟨by rfl, ?_⟩) ?_ ?_
              rotate_left; exact slv; rotate_left; exact sla
              refine pure_ (i := 7) (N := some 111) (v := ?_) (a' := ?_) #[tt,tt,tt,tt,tt,tt,tt,tt,ff,ff,ff,ff,ff,ff,ff,ff,ff,ff,ff,ff,ff,ff,ff,ff,ff,ff,ff,ff,ff,ff,ff,ff,ff,ff] rfl rfl (any_of HT_.out (by kernel_rfl)) (fun _ _ _ h => h) (Or.inl ⟨by rfl, ?_⟩) ?_ ?_
              rotate_left; exact slv; rotate_left; exact sla
              refine pure_ (i := 8) (N := some 112) (v := ?_) (a' := ?_) #[tt,tt,tt,tt,tt,tt,tt,tt,tt,ff,ff,ff,ff,ff,ff,ff,ff,ff,ff,ff,ff,ff,ff,ff,ff,ff,ff,ff,ff,ff,ff,ff,ff,ff] rfl rfl (any_of HT_.out (by kernel_rfl)) (fun _ _ _ h => h) (Or.inl ⟨by rfl, ?_⟩) ?_ ?_
              rotate_left; exact slv; rotate_left; exact sla
              refine pure_ (i := 9) (N := some 113) (v := ?_) (a' := ?_) #[tt,tt,tt,tt,tt,tt,tt,tt,tt,tt,ff,ff,ff,ff,ff,ff,ff,ff,ff,ff,ff,ff,ff,ff,ff,ff,ff,ff,ff,ff,ff,ff,ff,ff] rfl rfl (any_of HT_.out (by kernel_rfl)) (fun _ _ _ h => h) (Or.inl ⟨by rfl, ?_⟩) ?_ ?_
              rotate_left; exact slv; rotate_left; exact sla
              refine take_ (i := 10) (N := some 114) (v := ?_) (a' := ?_) #[tt,tt,tt,tt,tt,tt,tt,tt,tt,tt,tt,ff,ff,ff,ff,ff,ff,ff,ff,ff,ff,ff,ff,ff,ff,ff,ff,ff,ff,ff,ff,ff,ff,ff] rfl rfl (take_ofW HT_.out HW_.out (by kernel_rfl)) (fun _ _ _ h => h) (Or.inl ⟨by rfl, ?_⟩) hHeld ?_ ?_
              rotate_left; exact slt6; rotate_left; exact sla
              refine pure_ (i := 11) (N := some 115) (v := ?_) (a' := ?_) #[tt,tt,tt,tt,tt,tt,tt,tt,tt,tt,tt,tt,ff,ff,ff,ff,ff,ff,ff,ff,ff,ff,ff,ff,ff,ff,ff,ff,ff,ff,ff,ff,ff,ff] rfl rfl (any_of HT_.out (by kernel_rfl)) (fun _ _ _ h => h) (Or.inl ⟨by rfl, ?_⟩) ?_ ?_
              rotate_left; exact slv; rotate_left; exact sla
              refine pure_ (i := 12) (N := some 116) (v := ?_) (a' := ?_) #[tt,tt,tt,tt,tt,tt,tt,tt,tt,tt,tt,tt,tt,ff,ff,ff,ff,ff,ff,ff,ff,ff,ff,ff,ff,ff,ff,ff,ff,ff,ff,ff,ff,ff] rfl rfl (any_of HT_.out (by kernel_rfl)) (fun _ _ _ h => h) (Or.inl ⟨by rfl, ?_⟩) ?_ ?_
              rotate_left; exact slv; rotate_left; exact sla
              refine pure_ (i := 13) (N := some 117) (v := ?_) (a' := ?_) #[tt,tt,tt,tt,tt,tt,tt,tt,tt,tt,tt,tt,tt,tt,ff,ff,ff,ff,ff,ff,ff,ff,ff,ff,ff,ff,ff,ff,ff,ff,ff,ff,ff,ff] rfl rfl (any_of HT_.out (by kernel_rfl)) (fun _ _ _ h => h) (Or.inl ⟨by rfl, ?_⟩) ?_ ?_
              rotate_left; exact slv; rotate_left; exact sla
              refine pure_ (i := 14) (N := some 118) (v := undef) (a' := ?_) #[tt,tt,tt,tt,tt,tt,tt,tt,tt,tt,tt,tt,tt,tt,tt,ff,ff,ff,ff,ff,ff,ff,ff,ff,ff,ff,ff,ff,ff,ff,ff,ff,ff,ff] rfl rfl (any_of HT_.out (by kernel_rfl)) (fun _ _ _ h => h) (Or.inr ⟨by rfl, rfl⟩) ?_ ?_
              rotate_left
              · exact sla
              refine pure_ (i := 15) (N := some 119) (v := undef) (a' := ?_) #[tt,tt,tt,tt,tt,tt,tt,tt,tt,tt,tt,tt,tt,tt,tt,tt,ff,ff,ff,ff,ff,ff,ff,ff,ff,ff,ff,ff,ff,ff,ff,ff,ff,ff] rfl rfl (any_of HT_.out (by kernel_rfl)) (fun _ _ _ h => h) (Or.inr ⟨by rfl, rfl⟩) ?_ ?_
              rotate_left
              · exact sla
              refine pure_ (i := 16) (N := some 120) (v := undef) (a' := ?_) #[tt,tt,tt,tt,tt,tt,tt,tt,tt,tt,tt,tt,tt,tt,tt,tt,tt,ff,ff,ff,ff,ff,ff,ff,ff,ff,ff,ff,ff,ff,ff,ff,ff,ff] rfl rfl (any_of HT_.out (by kernel_rfl)) (fun _ _ _ h => h) (Or.inr ⟨by rfl, rfl⟩) ?_ ?_
              rotate_left
              · exact sla
              refine pure_ (i := 17) (N := some 121) (v := undef) (a' := ?_) #[tt,tt,tt,tt,tt,tt,tt,tt,tt,tt,tt,tt,tt,tt,tt,tt,tt,tt,ff,ff,ff,ff,ff,ff,ff,ff,ff,ff,ff,ff,ff,ff,ff,ff] rfl rfl (any_of HT_.out (by kernel_rfl)) (fun _ _ _ h => h) (Or.inr ⟨by rfl, rfl⟩) ?_ ?_
              rotate_left
              · exact sla
              refine pure_ (i := 18) (N := some 122) (v := undef) (a' := ?_) #[tt,tt,tt,tt,tt,tt,tt,tt,tt,tt,tt,tt,tt,tt,tt,tt,tt,tt,tt,ff,ff,ff,ff,ff,ff,ff,ff,ff,ff,ff,ff,ff,ff,ff] rfl rfl (any_of HT_.out (by kernel_rfl)) (fun _ _ _ h => h) (Or.inr ⟨by rfl, rfl⟩) ?_ ?_
              rotate_left
              · exact sla
              refine pure_ (i := 19) (N := some 123) (v := undef) (a' := ?_) #[tt,tt,tt,tt,tt,tt,tt,tt,tt,tt,tt,tt,tt,tt,tt,tt,tt,tt,tt,tt,ff,ff,ff,ff,ff,ff,ff,ff,ff,ff,ff,ff,ff,ff] rfl rfl (any_of HT_.out (by kernel_rfl)) (fun _ _ _ h => h) (Or.inr ⟨by rfl, rfl⟩) ?_ ?_
              rotate_left
              · exact sla
              refine pure_ (i := 20) (N := some 124) (v := undef) (a' := ?_) #[tt,tt,tt,tt,tt,tt,tt,tt,tt,tt,tt,tt,tt,tt,tt,tt,tt,tt,tt,tt,tt,ff,ff,ff,ff,ff,ff,ff,ff,ff,ff,ff,ff,ff] rfl rfl (any_of HT_.out (by kernel_rfl)) (fun _ _ _ h => h) (Or.inr ⟨by rfl, rfl⟩) ?_ ?_
              rotate_left
              · exact sla
              refine pure_ (i := 21) (N := some 125) (v := undef) (a' := ?_) #[tt,tt,tt,tt,tt,tt,tt,tt,tt,tt,tt,tt,tt,tt,tt,tt,tt,tt,tt,tt,tt,tt,ff,ff,ff,ff,ff,ff,ff,ff,ff,ff,ff,ff] rfl rfl (any_of HT_.out (by kernel_rfl)) (fun _ _ _ h => h) (Or.inr ⟨by rfl, rfl⟩) ?_ ?_
              rotate_left
              · exact sla
              refine pure_ (i := 22) (N := some 126) (v := undef) (a' := ?_) #[tt,tt,tt,tt,tt,tt,tt,tt,tt,tt,tt,tt,tt,tt,tt,tt,tt,tt,tt,tt,tt,tt,tt,ff,ff,ff,ff,ff,ff,ff,ff,ff,ff,ff] rfl rfl (any_of HT_.out (by kernel_rfl)) (fun _ _ _ h => h) (Or.inr ⟨by rfl, rfl⟩) ?_ ?_
              rotate_left
              · exact sla
              refine pure_ (i := 23) (N := some 127) (v := undef) (a' := ?_) #[tt,tt,tt,tt,tt,tt,tt,tt,tt,tt,tt,tt,tt,tt,tt,tt,tt,tt,tt,tt,tt,tt,tt,tt,ff,ff,ff,ff,ff,ff,ff,ff,ff,ff] rfl rfl (any_of HT_.out (by kernel_rfl)) (fun _ _ _ h => h) (Or.inr ⟨by rfl, rfl⟩) ?_ ?_
              rotate_left
              · exact sla
              refine pure_ (i := 24) (N := some 128) (v := undef) (a' := ?_) #[tt,tt,tt,tt,tt,tt,tt,tt,tt,tt,tt,tt,tt,tt,tt,tt,tt,tt,tt,tt,tt,tt,tt,tt,tt,ff,ff,ff,ff,ff,ff,ff,ff,ff] rfl rfl (any_of HT_.out (by kernel_rfl)) (fun _ _ _ h => h) (Or.inr ⟨by rfl, rfl⟩) ?_ ?_
              rotate_left
              · exact sla
              refine pure_ (i := 25) (N := some 129) (v := undef) (a' := ?_) #[tt,tt,tt,tt,tt,tt,tt,tt,tt,tt,tt,tt,tt,tt,tt,tt,tt,tt,tt,tt,tt,tt,tt,tt,tt,tt,ff,ff,ff,ff,ff,ff,ff,ff] rfl rfl (any_of HT_.out (by kernel_rfl)) (fun _ _ _ h => h) (Or.inr ⟨by rfl, rfl⟩) ?_ ?_
              rotate_left
              · exact sla
              refine pure_ (i := 26) (N := some 130) (v := undef) (a' := ?_) #[tt,tt,tt,tt,tt,tt,tt,tt,tt,tt,tt,tt,tt,tt,tt,tt,tt,tt,tt,tt,tt,tt,tt,tt,tt,tt,tt,ff,ff,ff,ff,ff,ff,ff] rfl rfl (any_of HT_.out (by kernel_rfl)) (fun _ _ _ h => h) (Or.inr ⟨by rfl, rfl⟩) ?_ ?_
              rotate_left
              · exact sla
              refine pure_ (i := 27) (N := some 131) (v := undef) (a' := ?_) #[tt,tt,tt,tt,tt,tt,tt,tt,tt,tt,tt,tt,tt,tt,tt,tt,tt,tt,tt,tt,tt,tt,tt,tt,tt,tt,tt,tt,ff,ff,ff,ff,ff,ff] rfl rfl (any_of HT_.out (by kernel_rfl)) (fun _ _ _ h => h) (Or.inr ⟨by rfl, rfl⟩) ?_ ?_
              rotate_left
              · exact sla
              refine pure_ (i := 28) (N := some 132) (v := undef) (a' := ?_) #[tt,tt,tt,tt,tt,tt,tt,tt,tt,tt,tt,tt,tt,tt,tt,tt,tt,tt,tt,tt,tt,tt,tt,tt,tt,tt,tt,tt,tt,ff,ff,ff,ff,ff] rfl rfl (any_of HT_.out (by kernel_rfl)) (fun _ _ _ h => h) (Or.inr ⟨by rfl, rfl⟩) ?_ ?_
              rotate_left
              · exact sla
              refine pure_ (i := 29) (N := some 133) (v := undef) (a' := ?_) #[tt,tt,tt,tt,tt,tt,tt,tt,tt,tt,tt,tt,tt,tt,tt,tt,tt,tt,tt,tt,tt,tt,tt,tt,tt,tt,tt,tt,tt,tt,ff,ff,ff,ff] rfl rfl (any_of HT_.out (by kernel_rfl)) (fun _ _ _ h => h) (Or.inr ⟨by rfl, rfl⟩) ?_ ?_
              rotate_left
              · exact sla
              refine pure_ (i := 30) (N := some 134) (v := undef) (a' := ?_) #[tt,tt,tt,tt,tt,tt,tt,tt,tt,tt,tt,tt,tt,tt,tt,tt,tt,tt,tt,tt,tt,tt,tt,tt,tt,tt,tt,tt,tt,tt,tt,ff,ff,ff] rfl rfl (any_of HT_.out (by kernel_rfl)) (fun _ _ _ h => h) (Or.inr ⟨by rfl, rfl⟩) ?_ ?_
              rotate_left
              · exact sla
              refine pure_ (i := 31) (N := some 135) (v := undef) (a' := ?_) #[tt,tt,tt,tt,tt,tt,tt,tt,tt,tt,tt,tt,tt,tt,tt,tt,tt,tt,tt,tt,tt,tt,tt,tt,tt,tt,tt,tt,tt,tt,tt,tt,ff,ff] rfl rfl (any_of HT_.out (by kernel_rfl)) (fun _ _ _ h => h) (Or.inr ⟨by rfl, rfl⟩) ?_ ?_
              rotate_left
              · exact sla
              refine pure_ (i := 32) (N := some 136) (v := undef) (a' := ?_) #[tt,tt,tt,tt,tt,tt,tt,tt,tt,tt,tt,tt,tt,tt,tt,tt,tt,tt,tt,tt,tt,tt,tt,tt,tt,tt,tt,tt,tt,tt,tt,tt,tt,ff] rfl rfl (any_of HT_.out (by kernel_rfl)) (fun _ _ _ h => h) (Or.inr ⟨by rfl, rfl⟩) ?_ ?_
              rotate_left
              · exact sla
              refine pure_ (i := 33) (N := some 137) (v := ?_) (a' := ?_) #[tt,tt,tt,tt,tt,tt,tt,tt,tt,tt,tt,tt,tt,tt,tt,tt,tt,tt,tt,tt,tt,tt,tt,tt,tt,tt,tt,tt,tt,tt,tt,tt,tt,tt] rfl rfl (any_of HT_.out (by kernel_rfl)) (fun _ _ _ h => h) (Or.inl ⟨by rfl, ?_⟩) ?_ ?_
              rotate_left; exact slv; rotate_left; exact sla
              refine done_ (done_of HT_.out (by kernel_rfl)) ?_
              try clear hHeld hw1 hw2
              have qi := (HFI.out w8 HB8.out).2.2.2.1
              have dz : (iv != dv) = false := by rw [bne_eq_false_iff_eq]; exact HE.out
              have hwi := HWI.out
              go_wp2_with ((with_reducible refine gate_upon ?_); go_simp)
              go_roundg gk2
              case measure => first | exact Nat.lt_succ_self _ | omega
              case rel => exact ⟨i + 1, rfl, by first | rfl | (simp; done) | (rw [hwi]; rfl), HI1, HB8⟩
          · have c1 : decide (0 ≤ dm) = false := decide_eq_false a1
            have HE : Aside0 (iv = dv) := ⟨by rw [HMO.out, if_neg (fun q => a1 q.1)]⟩
            clear a1
            have hw1 := HW1.out
            have hw2 := HW2.out
            refine start_ (n := 34) (S := fun w' => w'.cell? ⟨gw, i, none⟩ = some (.int .i64 dv) ∧ w'.cell? ⟨gw, m1.toNat, none⟩ = some (.int .i64 dm) ∧ w'.cell? ⟨gb, i, none⟩ = some (.int .i64 bv) ∧ w'.cell? ⟨gi, i, none⟩ = some (.int .i64 iv) ∧ w'.cell? ⟨w.heap.size + 1, 0, none⟩ = some (.int .i64 m1) ∧ w'.cell? ⟨w.heap.size + 1, 2, none⟩ = some (.int .i64 m3)) (ds := []) #[ff,ff,ff,ff,ff,ff,ff,ff,ff,ff,ff,ff,ff,ff,ff,ff,ff,ff,ff,ff,ff,ff,ff,ff,ff,ff,ff,ff,ff,ff,ff,ff,ff,ff] (by kernel_rfl) rfl rfl ⟨(HFI.out _ HBW.out).1, (HFI.out _ HBW.out).2.1, (HFI.out _ HBW.out).2.2.1, (HFI.out _ HBW.out).2.2.2.1, (HFI.out _ HBW.out).2.2.2.2.1, (HFI.out _ HBW.out).2.2.2.2.2⟩ (fun hHeld => ?_)
            refine with_tabW more.tab17 more.bits17 (fun HT_ HW_ => ?_)
            have HB8 : Aside0 (Below w7.heap.size w7 wr.drew) := ⟨below_drew HBW.out⟩
            generalize wr.drew = w8 at HB8 hHeld ⊢
            refine pure_ (i := 0) (N := some 104) (v := ?_) (a' := ?_) #[tt,ff,ff,ff,ff,ff,ff,ff,ff,ff,ff,ff,ff,ff,ff,ff,ff,ff,ff,ff,ff,ff,ff,ff,ff,ff,ff,ff,ff,ff,ff,ff,ff,ff] rfl rfl (any_of HT_.out (by kernel_rfl)) (fun _ _ _ h => h) (Or.inl ⟨by rfl, ?_⟩) ?_ ?_
            rotate_left; exact slv; rotate_left; exact sla
            refine pure_ (i := 1) (N := some 105) (v := ?_) (a' := ?_) #[tt,tt,ff,ff,ff,ff,ff,ff,ff,ff,ff,ff,ff,ff,ff,ff,ff,ff,ff,ff,ff,ff,ff,ff,ff,ff,ff,ff,ff,ff,ff,ff,ff,ff] rfl rfl (any_of HT_.out (by kernel_rfl)) (fun _ _ _ h => h) (Or.inl ⟨by rfl, ?_⟩) ?_ ?_
            rotate_left; exact slv; rotate_left; exact sla
            refine take_ (i := 2) (N := some 106) (v := ?_) (a' := ?_) #[tt,tt,tt,ff,ff,ff,ff,ff,ff,ff,ff,ff,ff,ff,ff,ff,ff,ff,ff,ff,ff,ff,ff,ff,ff,ff,ff,ff,ff,ff,ff,ff,ff,ff] rfl rfl (take_ofW HT_.out HW_.out (by kernel_rfl)) (fun _ _ _ h => h) (Or.inl ⟨by rfl, ?_⟩) hHeld ?_ ?_
            rotate_left; exact slt6; rotate_left; exact sla
            refine pure_ (i := 3) (N := some 107) (v := ?_) (a' := ?_) #[tt,tt,tt,tt,ff,ff,ff,ff,ff,ff,ff,ff,ff,ff,ff,ff,ff,ff,ff,ff,ff,ff,ff,ff,ff,ff,ff,ff,ff,ff,ff,ff,ff,ff] rfl rfl (any_of HT_.out (by kernel_rfl)) (fun _ _ _ h => h) (Or.inl ⟨by rfl, ?_⟩) ?_ ?_
            rotate_left; exact slv; rotate_left; exact sla
            refine take_ (i := 4) (N := some 108) (v := ?_) (a' := ?_) #[tt,tt,tt,tt,tt,ff,ff,ff,ff,ff,ff,ff,ff,ff,ff,ff,ff,ff,ff,ff,ff,ff,ff,ff,ff,ff,ff,ff,ff,ff,ff,ff,ff,ff] rfl rfl (take_ofW HT_.out HW_.out (by kernel_rfl)) (fun _ _ _ h => h) (Or.inl ⟨by rfl, ?_⟩) hHeld ?_ ?_
            rotate_left; exact slt6; rotate_left; exact sla
            refine pure_ (i := 5) (N := some 109) (v := ?_) (a' := ?_) #[tt,tt,tt,tt,tt,tt,ff,ff,ff,ff,ff,ff,ff,ff,ff,ff,ff,ff,ff,ff,ff,ff,ff,ff,ff,ff,ff,ff,ff,ff,ff,ff,ff,ff] rfl rfl (any_of HT_.out (by kernel_rfl)) (fun _ _ _ h => h) (Or.inl ⟨by rfl, ?_⟩) ?_ ?_
            rotate_left; exact slv; rotate_left; exact sla
            refine pure_ (i := 6) (N := some 110) (v := ?_) (a' := ?_) #[tt,tt,tt,tt,tt,tt,tt,ff,ff,ff,ff,ff,ff,ff,ff,ff,ff,ff,ff,ff,ff,ff,ff,ff,ff,ff,ff,ff,ff,ff,ff,ff,ff,ff] rfl rfl (any_of HT_.out (by kernel_rfl)) (fun _ _ _ h => h) (Or.inl ⟨by rfl, ?_⟩) ?_ ?_
            rotate_left; exact slv; rotate_left; exact sla
            refine pure_ (i := 7) (N := some 111) (v := undef) (a' := ?_) #[tt,tt,tt,tt,tt,tt,tt,tt,ff,ff,ff,ff,ff,ff,ff,ff,ff,ff,ff,ff,ff,ff,ff,ff,ff,ff,ff,ff,ff,ff,ff,ff,ff,ff] rfl rfl (any_of HT_.out (by kernel_rfl)) (fun _ _ _ h => h) (Or.inr ⟨by rfl, rfl⟩) ?_ ?_
            rotate_left
            · exact sla
            refine pure_ (i := 8) (N := some 112) (v := undef) (a' := ?_) #[tt,tt,tt,tt,tt,tt,tt,tt,tt,ff,ff,ff,ff,ff,ff,ff,ff,ff,ff,ff,ff,ff,ff,ff,ff,ff,ff,ff,ff,ff,ff,ff,ff,ff] rfl rfl (any_of HT_.out (by kernel_rfl)) (fun _ _ _ h => h) (Or.inr ⟨by rfl, rfl⟩) ?_ ?_
            rotate_left
            · exact sla
            refine pure_ (i := 9) (N := some 113) (v := undef) (a' := ?_) #[tt,tt,tt,tt,tt,tt,tt,tt,tt,tt,ff,ff,ff,ff,ff,ff,ff,ff,ff,ff,ff,ff,ff,ff,ff,ff,ff,ff,ff,ff,ff,ff,ff,ff] rfl rfl (any_of HT_.out (by kernel_rfl)) (fun _ _ _ h => h) (Or.inr ⟨by rfl, rfl⟩) ?_ ?_
            rotate_left
            · exact sla
            refine pure_ (i := 10) (N := some 114) (v := undef) (a' := ?_) #[tt,tt,tt,tt,tt,tt,tt,tt,tt,tt,tt,ff,ff,ff,ff,ff,ff,ff,ff,ff,ff,ff,ff,ff,ff,ff,ff,ff,ff,ff,ff,ff,ff,ff] rfl rfl (any_of HT_.out (by kernel_rfl)) (fun _ _ _ h => h) (Or.inr ⟨by rfl, rfl⟩) ?_ ?_
            rotate_left
            · exact sla
            refine pure_ (i := 11) (N := some 115) (v := undef) (a' := ?_) #[tt,tt,tt,tt,tt,tt,tt,tt,tt,tt,tt,tt,ff,ff,ff,ff,ff,ff,ff,ff,ff,ff,ff,ff,ff,ff,ff,ff,ff,ff,ff,ff,ff,ff] rfl rfl (any_of HT_.out (by kernel_rfl)) (fun _ _ _ h => h) (Or.inr ⟨by rfl, rfl⟩) ?_ ?_
            rotate_left
            · exact sla
            refine pure_ (i := 12) (N := some 116) (v := ?_) (a' := ?_) #[tt,tt,tt,tt,tt,tt,tt,tt,tt,tt,tt,tt,tt,ff,ff,ff,ff,ff,ff,ff,ff,ff,ff,ff,ff,ff,ff,ff,ff,ff,ff,ff,ff,ff] rfl rfl (any_of HT_.out (by kernel_rfl)) (fun _ _ _ h => h) (Or.inl ⟨by rfl, ?_⟩) ?_ ?_
            rotate_left; exact slv; rotate_left; exact sla
            refine pure_ (i := 13) (N := some 117) (v := ?_) (a' := ?_) #[tt,tt,tt,tt,tt,tt,tt,tt,tt,tt,tt,tt,tt,tt,ff,ff,ff,ff,ff,ff,ff,ff,ff,ff,ff,ff,ff,ff,ff,ff,ff,ff,ff,ff] rfl rfl (any_of HT_.out (by kernel_rfl)) (fun _ _ _ h => h) (Or.inl ⟨by rfl, ?_⟩) ?_ ?_
            rotate_left; exact slv; rotate_left; exact sla
            refine pure_ (i := 14) (N := some 118) (v := undef) (a' := ?_) #[tt,tt,tt,tt,tt,tt,tt,tt,tt,tt,tt,tt,tt,tt,tt,ff,ff,ff,ff,ff,ff,ff,ff,ff,ff,ff,ff,ff,ff,ff,ff,ff,ff,ff] rfl rfl (any_of HT_.out (by kernel_rfl)) (fun _ _ _ h => h) (Or.inr ⟨by rfl, rfl⟩) ?_ ?_
            rotate_left
            · exact sla
            refine pure_ (i := 15) (N := some 119) (v := undef) (a' := ?_) #[tt,tt,tt,tt,tt,tt,tt,tt,tt,tt,tt,tt,tt,tt,tt,tt,ff,ff,ff,ff,ff,ff,ff,ff,ff,ff,ff,ff,ff,ff,ff,ff,ff,ff] rfl rfl (any_of HT_.out (by kernel_rfl)) (fun _ _ _ h => h) (Or.inr ⟨by rfl, rfl⟩) ?_ ?_
            rotate_left
            · exact sla
            refine pure_ (i := 16) (N := some 120) (v := undef) (a' := ?_) #[tt,tt,tt,tt,tt,tt,tt,tt,tt,tt,tt,tt,tt,tt,tt,tt,tt,ff,ff,ff,ff,ff,ff,ff,ff,ff,ff,ff,ff,ff,ff,ff,ff,ff] rfl rfl (any_of HT_.out (by kernel_rfl)) (fun _ _ _ h => h) (Or.inr ⟨by rfl, rfl⟩) ?_ ?_
            rotate_left
            · exact sla
            refine pure_ (i := 17) (N := some 121) (v := undef) (a' := ?_) #[tt,tt,tt,tt,tt,tt,tt,tt,tt,tt,tt,tt,tt,tt,tt,tt,tt,tt,ff,ff,ff,ff,ff,ff,ff,ff,ff,ff,ff,ff,ff,ff,ff,ff] rfl rfl (any_of HT_.out (by kernel_rfl)) (fun _ _ _ h => h) (Or.inr ⟨by rfl, rfl⟩) ?_ ?_
            rotate_left
            · exact sla
            refine pure_ (i := 18) (N := some 122) (v := undef) (a' := ?_) #[tt,tt,tt,tt,tt,tt,tt,tt,tt,tt,tt,tt,tt,tt,tt,tt,tt,tt,tt,ff,ff,ff,ff,ff,ff,ff,ff,ff,ff,ff,ff,ff,ff,ff] rfl rfl (any_of HT_.out (by kernel_rfl)) (fun _ _ _ h => h) (Or.inr ⟨by rfl, rfl⟩) ?_ ?_
            rotate_left
            · exact sla
            refine pure_ (i := 19) (N := some 123) (v := undef) (a' := ?_) #[tt,tt,tt,tt,tt,tt,tt,tt,tt,tt,tt,tt,tt,tt,tt,tt,tt,tt,tt,tt,ff,ff,ff,ff,ff,ff,ff,ff,ff,ff,ff,ff,ff,ff] rfl rfl (any_of HT_.out (by kernel_rfl)) (fun _ _ _ h => h) (Or.inr ⟨by rfl, rfl⟩) ?_ ?_
            rotate_left
            · exact sla
            refine pure_ (i := 20) (N := some 124) (v := undef) (a' := ?_) #[tt,tt,tt,tt,tt,tt,tt,tt,tt,tt,tt,tt,tt,tt,tt,tt,tt,tt,tt,tt,tt,ff,ff,ff,ff,ff,ff,ff,ff,ff,ff,ff,ff,ff] rfl rfl (any_of HT_.out (by kernel_rfl)) (fun _ _ _ h => h) (Or.inr ⟨by rfl, rfl⟩) ?_ ?_
            rotate_left
            · exact sla
            refine pure_ (i := 21) (N := some 125) (v := undef) (a' := ?_) #[tt,tt,tt,tt,tt,tt,tt,tt,tt,tt,tt,tt,tt,tt,tt,tt,tt,tt,tt,tt,tt,tt,ff,ff,ff,ff,ff,ff,ff,ff,ff,ff,ff,ff] rfl rfl (any_of HT_.out (by kernel_rfl)) (fun _ _ _ h => h) (Or.inr ⟨by rfl, rfl⟩) ?_ ?_
            rotate_left
            · exact sla
            refine pure_ (i := 22) (N := some 126) (v := undef) (a' := ?_) #[tt,tt,tt,tt,tt,tt,tt,tt,tt,tt,tt,tt,tt,tt,tt,tt,tt,tt,tt,tt,tt,tt,tt,ff,ff,ff,ff,ff,ff,ff,ff,ff,ff,ff] rfl rfl (any_of HT_.out (by kernel_rfl)) (fun _ _ _ h => h) (Or.inr ⟨by rfl, rfl⟩) ?_ ?_
            rotate_left
            · exact sla
            refine pure_ (i := 23) (N := some 127) (v := undef) (a' := ?_) #[tt,tt,tt,tt,tt,tt,tt,tt,tt,tt,tt,tt,tt,tt,tt,tt,tt,tt,tt,tt,tt,tt,tt,tt,ff,ff,ff,ff,ff,ff,ff,ff,ff,ff] rfl rfl (any_of HT_.out (by kernel_rfl)) (fun _ _ _ h => h) (Or.inr ⟨by rfl, rfl⟩) ?_ ?_
            rotate_left
            · exact sla
            refine pure_ (i := 24) (N := some 128) (v := undef) (a' := ?_) #[tt,tt,tt,tt,tt,tt,tt,tt,tt,tt,tt,tt,tt,tt,tt,tt,tt,tt,tt,tt,tt,tt,tt,tt,tt,ff,ff,ff,ff,ff,ff,ff,ff,ff] rfl rfl (any_of HT_.out (by kernel_rfl)) (fun _ _ _ h => h) (Or.inr ⟨by rfl, rfl⟩) ?_ ?_
            rotate_left
            · exact sla
            refine pure_ (i := 25) (N := some 129) (v := undef) (a' := ?_) #[tt,tt,tt,tt,tt,tt,tt,tt,tt,tt,tt,tt,tt,tt,tt,tt,tt,tt,tt,tt,tt,tt,tt,tt,tt,tt,ff,ff,ff,ff,ff,ff,ff,ff] rfl rfl (any_of HT_.out (by kernel_rfl)) (fun _ _ _ h => h) (Or.inr ⟨by rfl, rfl⟩) ?_ ?_
            rotate_left
            · exact sla
            refine pure_ (i := 26) (N := some 130) (v := undef) (a' := ?_) #[tt,tt,tt,tt,tt,tt,tt,tt,tt,tt,tt,tt,tt,tt,tt,tt,tt,tt,tt,tt,tt,tt,tt,tt,tt,tt,tt,ff,ff,ff,ff,ff,ff,ff] rfl rfl (any_of HT_.out (by kernel_rfl)) (fun _ _ _ h => h) (Or.inr ⟨by rfl, rfl⟩) ?_ ?_
            rotate_left
            · exact sla
            refine pure_ (i := 27) (N := some 131) (v := undef) (a' := ?_) #[tt,tt,tt,tt,tt,tt,tt,tt,tt,tt,tt,tt,tt,tt,tt,tt,tt,tt,tt,tt,tt,tt,tt,tt,tt,tt,tt,tt,ff,ff,ff,ff,ff,ff] rfl rfl (any_of HT_.out (by kernel_rfl)) (fun _ _ _ h => h) (Or.inr ⟨by rfl, rfl⟩) ?_ ?_
            rotate_left
            · exact sla
            refine pure_ (i := 28) (N := some 132) (v := undef) (a' := ?_) #[tt,tt,tt,tt,tt,tt,tt,tt,tt,tt,tt,tt,tt,tt,tt,tt,tt,tt,tt,tt,tt,tt,tt,tt,tt,tt,tt,tt,tt,ff,ff,ff,ff,ff] rfl rfl (any_of HT_.out (by kernel_rfl)) (fun _ _ _ h => h) (Or.inr ⟨by rfl, rfl⟩) ?_ ?_
            rotate_left
            · exact sla
            refine pure_ (i := 29) (N := some 133) (v := undef) (a' := ?_) #[tt,tt,tt,tt,tt,tt,tt,tt,tt,tt,tt,tt,tt,tt,tt,tt,tt,tt,tt,tt,tt,tt,tt,tt,tt,tt,tt,tt,tt,tt,ff,ff,ff,ff] rfl rfl (any_of HT_.out (by kernel_rfl)) (fun _ _ _ h => h) (Or.inr ⟨by rfl, rfl⟩) ?_ ?_
            rotate_left
            · exact sla
            refine pure_ (i := 30) (N := some 134) (v := undef) (a' := ?_) #[tt,tt,tt,tt,tt,tt,tt,tt,tt,tt,tt,tt,tt,tt,tt,tt,tt,tt,tt,tt,tt,tt,tt,tt,tt,tt,tt,tt,tt,tt,tt,ff,ff,ff] rfl rfl (any_of HT_.out (by kernel_rfl)) (fun _ _ _ h => h) (Or.inr ⟨by rfl, rfl⟩) ?_ ?_
            rotate_left
            · exact sla
            refine pure_ (i := 31) (N := some 135) (v := undef) (a' := ?_) #[tt,tt,tt,tt,tt,tt,tt,tt,tt,tt,tt,tt,tt,tt,tt,tt,tt,tt,tt,tt,tt,tt,tt,tt,tt,tt,tt,tt,tt,tt,tt,tt,ff,ff] rfl rfl (any_of HT_.out (by kernel_rfl)) (fun _ _ _ h => h) (Or.inr ⟨by rfl, rfl⟩) ?_ ?_
            rotate_left
            · exact sla
            refine pure_ (i := 32) (N := some 136) (v := undef) (a' := ?_) #[tt,tt,tt,tt,tt,tt,tt,tt,tt,tt,tt,tt,tt,tt,tt,tt,tt,tt,tt,tt,tt,tt,tt,tt,tt,tt,tt,tt,tt,tt,tt,tt,tt,ff] rfl rfl (any_of HT_.out (by kernel_rfl)) (fun _ _ _ h => h) (Or.inr ⟨by rfl, rfl⟩) ?_ ?_
            rotate_left
            · exact sla
            refine pure_ (i := 33) (N := some 137) (v := ?_) (a' := ?_) #[tt,tt,tt,tt,tt,tt,tt,tt,tt,tt,tt,tt,tt,tt,tt,tt,tt,tt,tt,tt,tt,tt,tt,tt,tt,tt,tt,tt,tt,tt,tt,tt,tt,tt] rfl rfl (any_of HT_.out (by kernel_rfl)) (fun _ _ _ h => h) (Or.inl ⟨by rfl, ?_⟩) ?_ ?_
            rotate_left; exact slv; rotate_left; exact sla
            refine done_ (done_of HT_.out (by kernel_rfl)) ?_
            try clear hHeld hw1 hw2
            have qi := (HFI.out w8 HB8.out).2.2.2.1
            have dz : (iv != dv) = false := by rw [bne_eq_false_iff_eq]; exact HE.out
            have hwi := HWI.out
            go_wp2_with ((with_reducible refine gate_upon ?_); go_simp)
            go_roundg gk2
            case measure => first | exact Nat.lt_succ_self _ | omega
            case rel => exact ⟨i + 1, rfl, by first | rfl | (simp; done) | (rw [hwi]; rfl), HI1, HB8⟩
    · have d0 : (ev != 0) = true := by rw [bne_iff_ne]; exact he
      clear he
      go_wp2_with (first | fail | ((with_reducible refine gate_upon ?_); go_simp))
      refine HND.out.mono ?_
      rintro e w5 ⟨rfl, F5, hn5, hc5, hf5⟩
      have HB5 : Aside0 (Below w.heap.size w w5) := ⟨((Chg.of_below (F := F) HB4.out).trans hc5).below (Nat.le_refl _) (fun k hk => (HN4'.out.ge k hk).1)⟩
      clear hn5 hc5 hf5
      go_wp2_with (first | fail | ((with_reducible refine gate_upon ?_); go_simp))
      go_ret
      exact ⟨rfl, HB5.out⟩
end Go.Proofs.Ytgbfhhmmkhjhhaa.Paths
