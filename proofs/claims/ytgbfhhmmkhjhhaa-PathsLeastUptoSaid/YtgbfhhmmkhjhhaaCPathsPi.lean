/- Paths: the walk of PathsPieces. Conditions: those that stand in each theorem. Written by wip/gen/netlaws.py. -/
import Derived.Test.YtgbfhhmmkhjhhaaCPathsD
import Derived.Test.YtgbfhhmmkhjhhaaCPathsQX
import Derived.Test.YtgbfhhmmkhjhhaaCSl
namespace Go.Proofs.Ytgbfhhmmkhjhhaa.Paths
open Go.RowKit Go.Proofs.YtgbfhhmmkhjhhaaW.PrintWords Go.Proofs.YtgbfhhmmkhjhhaaW.PrintLast Go.Proofs.YtgbfhhmmkhjhhaaW.PrintMore Go.Proofs.Ytgbfhhmmkhjhhaa.HeapW Go.Proofs.Ytgbfhhmmkhjhhaa.HeapP Go.Proofs.Ytgbfhhmmkhjhhaa.MapAt Go.Proofs.Ytgbfhhmmkhjhhaa.Dij
open Go.Proofs.Ytgbfhhmmkhjhhaa.HeapIR hiding It Pt kIt_K infoZ reps_single
open Go.Proofs.Ytgbfhhmmkhjhhaa.Roads (NetS outOf isN isN_iff isN_no nodeP roadP okP kPt kRd flat_keep Flat flatPt flatRd rd_at infoPtz infoRd kPt_mk reps_single kPt_K kRd_K)
set_option linter.unusedVariables false
set_option linter.unusedSimpArgs false
def pieces.T14 : Bool × List (List Nat × List Nat) := (true, [([], []), ([], []), ([], []), ([2], [2]), ([1, 3], [1, 3]), ([4], [4]), ([], []), ([], []), ([6, 7], [6, 7]), ([8], [8]), ([0, 5, 9], [0, 5, 9]), ([10, 10, 0, 1, 2, 3, 4, 5, 6, 7, 8, 9, 10], [10])])
def pieces.B14 : List Nat := [0, 0, 0, 4, 14, 30, 0, 0, 192, 448, 1023, 2047]
theorem pieces.tab14 : rtab .any (opsOf Try.f4 14) = pieces.T14 := by kernel_rfl
theorem pieces.bits14 : waitsOk pieces.T14.2 pieces.B14 = true := by kernel_rfl
def pieces.T26 : Bool × List (List Nat × List Nat) := (true, [([], []), ([], []), ([], []), ([1, 2], [1, 2]), ([3], [3]), ([], []), ([], []), ([5, 6], [5, 6]), ([7], [7]), ([0, 4, 8], [0, 4, 8]), ([9], [9]), ([10], [10]), ([10], [10]), ([10], [10]), ([11, 9, 0, 1, 2, 3, 4, 5, 6, 7, 8, 9, 10, 11], [11]), ([12, 14, 0, 1, 2, 3, 4, 5, 6, 7, 8, 9, 10, 11, 12, 14], [12]), ([13, 15, 0, 1, 2, 3, 4, 5, 6, 7, 8, 9, 10, 11, 12, 13, 14, 15], [13])])
def pieces.B26 : List Nat := [0, 0, 0, 6, 14, 0, 0, 96, 224, 511, 1023, 2047, 2047, 2047, 4095, 24575, 65535]
theorem pieces.tab26 : rtab .any (opsOf Try.f4 26) = pieces.T26 := by kernel_rfl
theorem pieces.bits26 : waitsOk pieces.T26.2 pieces.B26 = true := by kernel_rfl
/-- a way is no longer than it costs -/
theorem WayR.len {n : Nat} {outf : Int → List Rd} (hN : Net n outf) {c : List Int} {u t : Int} {l : List Int} (hd : DistTo n outf t c) (hu : 0 ≤ u ∧ u < n) (h : WayR outf c t u l) : (l.length : Int) ≤ cv c u + 1 := by
  induction h with
  | stop => rw [hd.st]; simp
  | go hne h1 h2 h3 ih =>
    obtain ⟨x, hx, hC, rfl⟩ := h1
    have r := hN.road _ _ hu.1 hu.2 hx
    have := ih ⟨r.1, r.2.1⟩
    have := hC.2
    rw [List.length_cons]
    omega
theorem mod_ge {i L : Int} (h : 0 < L) : -L < Int.tmod i L ∧ Int.tmod i L < L := by
  have h1 := Int.tmod_lt_of_pos i h
  have h2 := Int.tmod_lt_of_pos (-i) h
  rw [Int.neg_tmod] at h2
  omega
theorem sumK_one (out : List (List Rd)) {l : List Int} {a : Int} (h : l[0]? = some a) : sumK out (l.take 1) = 0 := by
  cases l with
  | nil => simp at h
  | cons b l => simp [sumK]
theorem wrap_nat {a L : Nat} (h : a < L) (hL : L ≤ 4294967297) : wrap64 (a : Int) = (a : Int) := by unfold wrap64; omega
set_option maxHeartbeats 16000000 in
set_option maxRecDepth 100000 in
theorem pieces_walk (PA RA : Option Addr) (pc rc : Nat) (pl : List Roads.Pt) (rl : List Rd) (fr tv i0 j0 : Int) (w : World) (hP : Kd.C kPt w PA pl.length pl) (hR : Kd.C kRd w RA rl.length rl) (hp : ∀ p ∈ pl, okP p) (hpl : pl.length ≤ 100000000000000) (hrl : rl.length ≤ 5864062014634) :
    Calls Try.prog 4 #[.agg #[.slice PA pl.length pc, .slice RA rl.length rc], .int .i64 fr, .int .i64 tv, .int .i64 i0, .int .i64 j0] w fun e w' => e = .returned (.bool true) ∧ Below w.heap.size w w' := by
  have qe := eql_ptr
  obtain ⟨pn, hpn⟩ : ∃ pn, pn = pl.length := ⟨_, rfl⟩
  obtain ⟨rn, hrn⟩ : ∃ rn, rn = rl.length := ⟨_, rfl⟩
  have HB0 : Aside0 (Below w.heap.size w (w.alloc (.cells #[.slice PA pn pc, .slice RA rn rc] 25))) := ⟨below_alloc (Below.refl _ _) _⟩
  have HLD := Aside0.mk (laid_calls PA RA pc rc pl rl (w.alloc (.cells #[.slice PA pn pc, .slice RA rn rc] 25)) (Kd.C_below hP HB0.out) (Kd.C_below hR HB0.out) hp hpl hrl)
  rw [← hpn, ← hrn] at HLD
  rw [← hpn, ← hrn]
  have HT0 : Aside0 ((w.alloc (.cells #[.slice PA pn pc, .slice RA rn rc] 25)).heap[w.heap.size]? = some (.cells #[.slice PA pn pc, .slice RA rn rc] 25)) := ⟨blk_new _ _⟩
  clear hP hR hp hpl hrl hpn hrn
  go_enter Try.func4, Try.ntmps4
  have hx0 : (w.alloc (.cells #[.slice PA pn pc, .slice RA rn rc] 25)).cell? ⟨w.heap.size, 0, none⟩ = some (.slice PA pn pc) := (blk_cell HT0.out 0).trans rfl
  have hx1 : (w.alloc (.cells #[.slice PA pn pc, .slice RA rn rc] 25)).cell? ⟨w.heap.size, 1, none⟩ = some (.slice RA rn rc) := (blk_cell HT0.out 1).trans rfl
  go_wp2_with fail
  refine HLD.out.mono ?_
  rintro e w1 ⟨g, F, ps, out, RB, rb, R, rfl, hbe, -⟩
  have HN1 := Aside0.mk (net_lower hbe.net HB0.out.size)
  have HB1 := Aside0.mk (below_step HB0.out hbe.below)
  have HFB : Aside0 (∀ k, F k → w.heap.size + 1 ≤ k) := ⟨fun k hk => by have h := (hbe.net.ge k hk).1; rw [World.size_alloc] at h; exact h⟩
  obtain ⟨pm, hpm⟩ : ∃ pm, pm = ps.length := ⟨_, rfl⟩
  obtain ⟨rm, hrm⟩ : ∃ rm, rm = R.length := ⟨_, rfl⟩
  rw [← hpm, ← hrm]
  have HXA := Aside0.mk (blk_new w1 (.cells #[.int .i64 0, .slice none 0 0] 28))
  clear hbe hpm hrm hx0 hx1 HLD HT0 HB0
  go_wp2_with (first | ((with_reducible refine gate_store (t := 28) (p := 12) (v := .tmp 29) rfl ?_); refine wpList_store_row rfl 28 (.tmp 12) (.tmp 29) rfl w1.heap.size #[.int .i64 (pm : Nat), .slice RB rm rb] rfl rfl _ _ HXA.out infoNet rfl (by simp [Value.oneCell']) ?_; have hs := chg_row (cs := #[.int .i64 (pm : Nat), .slice RB rm rb]) HXA.out; have HXB := Aside0.mk hs.1; have hbx := (Chg.of_below (F := (fun _ => False)) (below_alloc (Below.refl w1.heap.size w1) (.cells #[.int .i64 0, .slice none 0 0] 28))).then hs.2 (fun i hi => Or.inr (Nat.le_of_eq (Eq.symm hi))); have HBB : Aside0 (Below w1.heap.size w1 ((w1.alloc (.cells #[.int .i64 0, .slice none 0 0] 28)).setRow w1.heap.size #[.int .i64 (pm : Nat), .slice RB rm rb])) := ⟨hbx.below (Nat.le_refl _) (fun _ q => q.elim)⟩; clear hs hbx; generalize (w1.alloc (.cells #[.int .i64 0, .slice none 0 0] 28)).setRow w1.heap.size #[.int .i64 (pm : Nat), .slice RB rm rb] = w2 at HXB HBB ⊢) | ((with_reducible refine gate_upon ?_); go_simp))
  refine (lives_calls _).mono ?_
  rintro e w3 ⟨rfl, hb3⟩
  have HN3 := Aside0.mk (HN1.out.below (below_step HBB.out hb3))
  have HB3 := Aside0.mk (below_step HB1.out (below_step HBB.out hb3))
  have HN0 : Aside0 (∀ k, F k → k < w3.heap.size) := ⟨fun k hk => (HN3.out.ge k hk).2⟩
  obtain ⟨n, hn⟩ : ∃ n, out.length = n := ⟨_, rfl⟩
  have HLN := Aside0.mk hn
  have HG : Aside0 (Roads.Good n out) := ⟨by rw [← hn]; exact HN3.out.good⟩
  have HN4 : Aside0 (n ≤ 4096) := ⟨by have := HN3.out.len; omega⟩
  clear hn hb3 HN1 HB1 HXA HXB HBB
  cases hv : (isN out.length fr && isN out.length tv) with
  | false =>
   as_aux_lemma =>
    have HV : Aside0 ((isN n fr && isN n tv) = false) := ⟨by rw [← HLN.out]; exact hv⟩
    have HWG := Aside0.mk (way_gone HN3.out HB3.out.size hv)
    clear hv
    go_wp2_with (first | fail | ((with_reducible refine gate_upon ?_); go_simp))
    refine HWG.out.mono ?_
    rintro e w4 ⟨rfl, hb4⟩
    have HN4' := Aside0.mk (HN3.out.below hb4)
    have HB4 := Aside0.mk (below_step HB3.out hb4)
    clear hb4 HN3 HB3 HWG
    cases hf : isN out.length fr with
    | false =>
     as_aux_lemma =>
      have HFG := Aside0.mk (from_gone HN4'.out HB4.out.size hf)
      clear hf
      go_wp2_with (first | fail | ((with_reducible refine gate_upon ?_); go_simp))
      refine HFG.out.mono ?_
      rintro e w5 ⟨rfl, hb5⟩
      have HB5 := Aside0.mk (below_step HB4.out hb5)
      clear hb5
      go_wp2_with (first | fail | ((with_reducible refine gate_upon ?_); go_simp))
      go_ret
      exact ⟨rfl, HB5.out⟩
    | true =>
     as_aux_lemma =>
      have HFR := Aside0.mk (from_row HN4'.out HB4.out.size hf HLN.out)
      have HT : Aside0 (tv < 0 ∨ (n : Int) ≤ tv) := ⟨by
        have h := HV.out
        rw [← HLN.out, hf, Bool.true_and, HLN.out] at h
        rcases Int.lt_or_le tv 0 with q | q
        · exact Or.inl q
        · right
          rcases Int.lt_or_le tv n with q2 | q2
          · rw [isN_iff.2 ⟨q, q2⟩] at h; cases h
          · exact q2⟩
      clear hf
      go_wp2_with (first | fail | ((with_reducible refine gate_upon ?_); go_simp))
      refine HFR.out.mono ?_
      rintro e w5 ⟨gd, cd, d, rfl, hr5, hd5, hb5⟩
      have HB5 := Aside0.mk (below_step HB4.out hb5)
      clear hb5 hr5 hd5
      by_cases ht : tv < 0
      · have d1 : decide (tv < 0) = true := decide_eq_true ht
        clear ht
        go_wp2_with (first | fail | ((with_reducible refine gate_upon ?_); go_simp))
        go_ret
        exact ⟨rfl, HB5.out⟩
      · have d1 : decide (tv < 0) = false := decide_eq_false ht
        have d2 : decide ((n : Int) ≤ tv) = true := decide_eq_true (by have := HT.out; omega)
        clear ht
        go_wp2_with (first | fail | ((with_reducible refine gate_upon ?_); go_simp))
        go_ret
        exact ⟨rfl, HB5.out⟩
  | true =>
   as_aux_lemma =>
    have HV : Aside0 (isN n fr = true ∧ isN n tv = true) := ⟨by rw [← HLN.out, ← Bool.and_eq_true]; exact hv⟩
    have HFT : Aside0 ((0 ≤ fr ∧ fr < n) ∧ 0 ≤ tv ∧ tv < n) := ⟨isN_iff.1 HV.out.1, isN_iff.1 HV.out.2⟩
    have HNN : Aside0 (Net n (outOf out)) := ⟨net_of HG.out HLN.out⟩
    have HWA := Aside0.mk (way_any HN3.out HB3.out.size hv)
    clear hv
    go_wp2_with (first | fail | ((with_reducible refine gate_upon ?_); go_simp))
    refine HWA.out.mono ?_
    rintro e w4 ⟨c, hc, hb4, hway⟩
    rw [HLN.out] at hc
    have HC := Aside0.mk hc
    have HN4' := Aside0.mk (HN3.out.below hb4)
    have HB4 := Aside0.mk (below_step HB3.out hb4)
    have HS34 := Aside0.mk hb4.size
    have HFR := Aside0.mk (from_row HN4'.out HB4.out.size (v := fr) (by rw [HLN.out]; exact HV.out.1) HLN.out)
    have ht0 : 0 ≤ tv := HFT.out.2.1
    have htn : tv < n := HFT.out.2.2
    have d1 : decide (tv < 0) = false := decide_eq_false (by omega)
    have d2 : decide ((n : Int) ≤ tv) = false := decide_eq_false (by omega)
    clear hc hb4 HN3 HB3 HWA
    rcases hway with ⟨hz, rfl⟩ | ⟨hz, gl, cl, l, rfl, hr, hw⟩
    · as_aux_lemma =>
      have HZ := Aside0.mk hz
      clear hz
      go_wp2_with (first | fail | ((with_reducible refine gate_upon ?_); go_simp))
      refine HFR.out.mono ?_
      rintro e w5 ⟨gd, cd, d, rfl, hr5, hd5, hb5⟩
      have HB5 := Aside0.mk (below_step HB4.out hb5)
      have HDB := Aside0.mk (dist_both HNN.out hd5 HC.out HFT.out.1 HFT.out.2)
      have qd := row_at hr5 tv ht0 htn
      have hz1 : cv d tv = -1 := by have := HDB.out; have := HZ.out; have := hd5.ge tv ht0; omega
      rw [hz1] at qd
      clear hb5 hr5 hd5 hz1
      go_wp2_with (first | fail | ((with_reducible refine gate_upon ?_); go_simp))
      go_ret
      exact ⟨rfl, HB5.out⟩
    · as_aux_lemma =>
      have HZ := Aside0.mk hz
      have HW := Aside0.mk hw
      have HRL4 := Aside0.mk hr
      obtain ⟨L, hL⟩ : ∃ L, L = l.length := ⟨_, rfl⟩
      have HL := Aside0.mk hL
      have HLE : Aside0 (1 ≤ L ∧ l[0]? = some fr ∧ l[L - 1]? = some tv ∧ L ≤ 4294967297) := ⟨by
        have h1 := hw.goes HC.out
        obtain ⟨m, hm⟩ := h1.ne
        have h2 := h1.last
        have h3 := hw.len HNN.out HC.out HFT.out.1
        have h4 := HC.out.most fr HFT.out.1.1 HFT.out.1.2
        have h5 := HN4.out
        rw [← hL] at h2 h3
        exact ⟨h2.1, by rw [hm]; rfl, h2.2, by omega⟩⟩
      rw [← hL]
      clear hz hr hL hw
      go_wp2_with (first | fail | ((with_reducible refine gate_upon ?_); go_simp))
      refine HFR.out.mono ?_
      rintro e w5 ⟨gd, cd, d, rfl, hr5, hd5, hb5⟩
      have HB5 := Aside0.mk (below_step HB4.out hb5)
      have HN5 := Aside0.mk (HN4'.out.below hb5)
      have HRL5 := Aside0.mk (Kd.R_below HRL4.out hb5)
      have HDB := Aside0.mk (dist_both HNN.out hd5 HC.out HFT.out.1 HFT.out.2)
      have qd := row_at hr5 tv ht0 htn
      obtain ⟨zf, hzf⟩ : ∃ zf, zf = cv c fr := ⟨_, rfl⟩
      have HZF := Aside0.mk hzf
      rw [← HDB.out, ← hzf] at qd
      rw [← hzf]
      have HRN : Aside0 (∀ (W : World), Below w5.heap.size w5 W → kInt.R 3 W w3.heap.size (fun _ => True) (.slice (some ⟨gl, 0, none⟩) L cl) l) := ⟨fun W hb => by rw [HL.out]; exact Kd.R_below HRL5.out hb⟩
      have HAT : Aside0 (∀ (W : World) (k : Nat) (v : Int), Below w5.heap.size w5 W → l[k]? = some v → W.cell? ⟨gl, k, none⟩ = some (.int .i64 v)) := ⟨fun W k v hb hk => by
        have hkl : k < L := by rw [HL.out]; exact (List.getElem?_eq_some_iff.1 hk).1
        have h := row_nat (HRN.out W hb) k hkl
        have e : cv l (k : Int) = v := by unfold cv; rw [Int.toNat_natCast, List.getD_eq_getElem?_getD, hk]; rfl
        rwa [e] at h⟩
      have q0 := HAT.out w5 0 fr (Below.refl _ _) HLE.out.2.1
      have q1 := HAT.out w5 (L - 1) tv (Below.refl _ _) HLE.out.2.2.1
      have dl0 : ((L : Int) == 0) = false := by rw [beq_eq_false_iff_ne]; have := HLE.out; omega
      have hL0 : (0 : Int) < L := by have := HLE.out; omega
      have hwl : wrap64 ((L : Int) - 1) = ((L - 1 : Nat) : Int) := by unfold wrap64; have := HLE.out; omega
      have hwl1 : ((L - 1 : Nat) : Int) < L := by have := HLE.out; omega
      have e0 : (fr != fr) = false := by simp
      have e1 : (tv != tv) = false := by simp
      have e2 : (zf != zf) = false := by simp
      clear hb5 hr5 hd5 hzf HRL4 HRL5 HN4' HB4 HFR
      go_wp2_with (first | fail | ((with_reducible refine gate_upon ?_); go_simp))
      clear q0 q1 qd hwl hwl1
      have HCO : Aside0 (∀ (W : World) (a b : Int), Below w5.heap.size w5 W → Calls Try.prog 15 #[.pointer (some ⟨g, 0, none⟩), .int .i64 a, .int .i64 b] W fun e w' => e = .returned (.int .i64 (costL (outOf out a) b)) ∧ Below W.heap.size W w') := ⟨fun W a b hb => cost_calls (HN5.out.below hb) (Nat.le_trans HB5.out.size hb.size) a b⟩
      go_loopg [10, 19, 20] (L - 1) (fun kq v10 v19 v20 w' => ∃ (j k : Nat) (sm : Int), v10 = .bool false ∧ v19 = .int .i64 sm ∧ v20 = .int .i64 k ∧ Aside0 (k = j + 1 ∧ k + kq = L) ∧ Aside0 (sm = sumK out (l.take k) ∧ 0 ≤ sm ∧ sm ≤ 1048576 * (k : Int)) ∧ Aside0 (Below w5.heap.size w5 w'))
      case atStart => exact ⟨0, 1, 0, rfl, rfl, by first | rfl | simp, ⟨rfl, by have := HLE.out; omega⟩, ⟨(sumK_one out HLE.out.2.1).symm, by omega, by omega⟩, ⟨Below.refl _ _⟩⟩
      case round =>
       as_aux_lemma =>
        obtain ⟨j, k, sm, rfl, rfl, rfl, HK, HSM, HBW⟩ := hrel
        cases gk with
        | zero =>
         as_aux_lemma =>
          have hk : L = k := by have := HK.out; omega
          subst hk
          have hgt : decide (L < L) = false := decide_eq_false (by omega)
          have HSZ : Aside0 (sm = zf) := ⟨by rw [HSM.out.1, HL.out, List.take_length, HW.out.costs HG.out (by have := HC.out; exact this), HZF.out]⟩
          have HN6 := Aside0.mk (HN5.out.below HBW.out)
          have HB6 := Aside0.mk (below_step HB5.out HBW.out)
          have hL1 : ((L : Int) == 0) = false := dl0
          have HMI := Aside0.mk (mod_ge (i := i0) hL0)
          have HMJ := Aside0.mk (mod_ge (i := j0) hL0)
          obtain ⟨ri, hri⟩ : ∃ ri, ri = Int.tmod i0 (L : Int) := ⟨_, rfl⟩
          obtain ⟨rj, hrj⟩ : ∃ rj, rj = Int.tmod j0 (L : Int) := ⟨_, rfl⟩
          have hwi : wrap64 (Int.tmod i0 (L : Int)) = ri := by rw [hri]; unfold wrap64; have := HMI.out; have := HLE.out; omega
          have hwj : wrap64 (Int.tmod j0 (L : Int)) = rj := by rw [hrj]; unfold wrap64; have := HMJ.out; have := HLE.out; omega
          rw [← hri] at HMI
          rw [← hrj] at HMJ
          have hri' := hri.symm
          have hrj' := hrj.symm
          clear hri hrj
          go_upto_if 139 with (first | fail | ((with_reducible refine gate_upon ?_); go_simp))
          clear hwi hwj hri' hrj' hgt
          go_cut [3, 140, 141] (fun v3 v140 v141 wc => ∃ a : Nat, v3 = .int .i64 a ∧ Aside0 (a < L) ∧ Aside0 (wc = wr))
          case first =>
            by_cases h0 : ri < 0
            · have dn : decide (ri < 0) = true := decide_eq_true h0
              obtain ⟨a, ha⟩ : ∃ a : Nat, (a : Int) = -ri := ⟨(-ri).toNat, by omega⟩
              have HA : Aside0 (a < L) := ⟨by have := HMI.out; omega⟩
              have hwa : wrap64 (-ri) = (a : Int) := by rw [ha]; unfold wrap64; have := HMI.out; have := HLE.out; omega
              clear h0
              have ha' := ha.symm
              clear ha
              (first | rw [dn] | skip)
              go_wp2
              go_meet
              case rel => exact ⟨a, by first | rfl | (rw [wrap_nat HA.out HLE.out.2.2.2]), HA, ⟨rfl⟩⟩
            · have dn : decide (ri < 0) = false := decide_eq_false h0
              obtain ⟨a, rfl⟩ : ∃ a : Nat, ri = (a : Int) := ⟨ri.toNat, by omega⟩
              have HA : Aside0 (a < L) := ⟨by have := HMI.out; omega⟩
              clear h0
              (first | rw [dn] | rw [dn2] | skip)
              go_wp2
              go_meet
              case rel => exact ⟨a, rfl, HA, ⟨rfl⟩⟩
          case rest =>
          obtain ⟨a, rfl, HA, HWC⟩ := hcut
          have hwc := HWC.out.symm
          subst hwc
          clear HWC
          go_upto_if 143 with (first | fail | ((with_reducible refine gate_upon ?_); go_simp))
          go_cut [4, 144, 145] (fun v4 v144 v145 wc => ∃ b : Nat, v4 = .int .i64 b ∧ Aside0 (b < L) ∧ Aside0 (wc = wr))
          case first =>
            by_cases h0 : rj < 0
            · have dn : decide (rj < 0) = true := decide_eq_true h0
              obtain ⟨b, hb⟩ : ∃ b : Nat, (b : Int) = -rj := ⟨(-rj).toNat, by omega⟩
              have HBL : Aside0 (b < L) := ⟨by have := HMJ.out; omega⟩
              have hwa : wrap64 (-rj) = (b : Int) := by rw [hb]; unfold wrap64; have := HMJ.out; have := HLE.out; omega
              clear h0
              have hb' := hb.symm
              clear hb
              (first | rw [dn] | skip)
              go_wp2
              go_meet
              case rel => exact ⟨b, by first | rfl | (rw [wrap_nat HBL.out HLE.out.2.2.2]), HBL, ⟨rfl⟩⟩
            · have dn : decide (rj < 0) = false := decide_eq_false h0
              obtain ⟨b, rfl⟩ : ∃ b : Nat, rj = (b : Int) := ⟨rj.toNat, by omega⟩
              have HBL : Aside0 (b < L) := ⟨by have := HMJ.out; omega⟩
              clear h0
              (first | rw [dn] | rw [dn2] | skip)
              go_wp2
              go_meet
              case rel => exact ⟨b, rfl, HBL, ⟨rfl⟩⟩
          case rest =>
          obtain ⟨b, rfl, HBL, HWC⟩ := hcut
          have hwc := HWC.out.symm
          subst hwc
          clear HWC
          go_upto_if 148 with (first | fail | ((with_reducible refine gate_upon ?_); go_simp))
          go_cut [3, 4, 149, 150] (fun v3 v4 v149 v150 wc => ∃ p q : Nat, v3 = .int .i64 p ∧ v4 = .int .i64 q ∧ Aside0 (p ≤ q ∧ q < L) ∧ Aside0 (wc = wr))
          case first =>
            by_cases h0 : b < a
            · have dn : decide ((b : Int) < (a : Int)) = true := decide_eq_true (by omega)
              have dn2 : decide (b < a) = true := decide_eq_true h0
              have HA2 : Aside0 (b ≤ a ∧ a < L) := ⟨by have := HA.out; omega⟩
              clear h0
              (first | rw [dn] | rw [dn2] | skip)
              go_wp2
              go_meet
              case rel => exact ⟨b, a, rfl, rfl, HA2, ⟨rfl⟩⟩
            · have dn : decide ((b : Int) < (a : Int)) = false := decide_eq_false (by omega)
              have dn2 : decide (b < a) = false := decide_eq_false h0
              have HA2 : Aside0 (a ≤ b ∧ b < L) := ⟨by have := HBL.out; omega⟩
              clear h0
              (first | rw [dn] | rw [dn2] | skip)
              go_wp2
              go_meet
              case rel => exact ⟨a, b, rfl, rfl, HA2, ⟨rfl⟩⟩
          case rest =>
          as_aux_lemma =>
          obtain ⟨p, q, rfl, rfl, HPQ, HWC⟩ := hcut
          have hwc := HWC.out.symm
          subst hwc
          clear HWC HA HBL HMI HMJ
          obtain ⟨u, hu⟩ : ∃ u, l[p]? = some u := ⟨_, List.getElem?_eq_getElem (by have := HPQ.out; have := HL.out; omega)⟩
          obtain ⟨v, hv⟩ : ∃ v, l[q]? = some v := ⟨_, List.getElem?_eq_getElem (by have := HPQ.out; have := HL.out; omega)⟩
          have HUV : Aside0 ((0 ≤ u ∧ u < n) ∧ 0 ≤ v ∧ v < n) := ⟨HW.out.node HNN.out HFT.out.1 u (List.mem_of_getElem? hu), HW.out.node HNN.out HFT.out.1 v (List.mem_of_getElem? hv)⟩
          obtain ⟨Z, hZ⟩ : ∃ Z, Z = (l.take (q + 1)).drop p := ⟨_, rfl⟩
          have HZ := Aside0.mk hZ
          have HPC : Aside0 (∀ c', DistTo n (outOf out) v c' → WayR (outOf out) c' v u Z) := ⟨fun c' hd' => by
            have h1 := HW.out.drop p u hu
            have h2 := h1.piece HNN.out HC.out HUV.out.2 hd' HUV.out.1 (q - p) (by rw [List.getElem?_drop, show p + (q - p) = q by have := HPQ.out; omega]; exact hv)
            rw [hZ, List.drop_take, show q + 1 - p = q - p + 1 by have := HPQ.out; omega]
            exact h2⟩
          have HWW : Aside0 (∀ W, Below wr.heap.size wr W → Calls Try.prog 14 #[.pointer (some ⟨g, 0, none⟩), .int .i64 u, .int .i64 v] W fun e w' => ∃ (gp cp : Nat) (zc : Int), e = .returned (.tuple #[.slice (some ⟨gp, 0, none⟩) Z.length cp, .int .i64 zc, .int .i64 0]) ∧ kInt.R 3 w' W.heap.size (fun _ => True) (.slice (some ⟨gp, 0, none⟩) Z.length cp) Z ∧ Below W.heap.size W w') := ⟨fun W hbb => by
            refine (way_any (HN6.out.below hbb) (Nat.le_trans HB6.out.size hbb.size) (fr := u) (tv := v) (by rw [HLN.out, isN_iff.2 HUV.out.1, isN_iff.2 HUV.out.2]; rfl)).mono ?_
            rintro e w' ⟨c', hc', hb', hcase⟩
            rw [HLN.out] at hc'
            have hw' := HPC.out c' hc'
            rcases hcase with ⟨hz', _⟩ | ⟨hz', gp, cp, l', rfl, hr', hwl'⟩
            · have := hc'.least HNN.out (hw'.goes hc') HUV.out.1
              omega
            · have e := hwl'.uniq hw'
              subst e
              exact ⟨gp, cp, _, rfl, hr', hb'⟩⟩
          have hp0 : (p : Int) < L := by have := HPQ.out; omega
          have hq0 : (q : Int) < L := by have := HPQ.out; omega
          obtain ⟨ZL, hZL⟩ : ∃ ZL, ZL = Z.length := ⟨_, rfl⟩
          have HZL : Aside0 (ZL = Z.length ∧ ZL = q + 1 - p) := ⟨hZL, by rw [hZL, hZ, List.length_drop, List.length_take]; have := HPQ.out; have := HL.out; omega⟩
          rw [← hZL] at HWW
          have HQ : Aside0 (∀ W, Below wr.heap.size wr W → W.cell? ⟨gl, p, none⟩ = some (.int .i64 u) ∧ W.cell? ⟨gl, q, none⟩ = some (.int .i64 v)) := ⟨fun W h => ⟨HAT.out W p u (below_step HBW.out h) hu, HAT.out W q v (below_step HBW.out h) hv⟩⟩
          clear hu hv hZ hZL
          go_wp2_with (first | fail | ((with_reducible refine gate_upon ?_); go_simp))
          refine start_ (n := 17) (S := fun w' => w'.cell? ⟨gl, p, none⟩ = some (.int .i64 u) ∧ w'.cell? ⟨gl, q, none⟩ = some (.int .i64 v)) (ds := []) #[ff,ff,ff,ff,ff,ff,ff,ff,ff,ff,ff,ff,ff,ff,ff,ff,ff] (by kernel_rfl) rfl rfl ⟨(HQ.out _ (Below.refl _ _)).1, (HQ.out _ (Below.refl _ _)).2⟩ (fun hHeld => ?_)
          refine with_tabW pieces.tab26 pieces.bits26 (fun HT_ HW_ => ?_)
          have HB7 : Aside0 (Below wr.heap.size wr wr.drew) := ⟨below_drew1 (Below.refl _ _)⟩
          generalize wr.drew = w7 at HB7 hHeld ⊢
          refine pure_ (i := 0) (N := some 152) (v := ?_) (a' := ?_) #[tt,ff,ff,ff,ff,ff,ff,ff,ff,ff,ff,ff,ff,ff,ff,ff,ff] rfl rfl (any_of HT_.out (by kernel_rfl)) (fun _ _ _ h => h) (Or.inl ⟨by rfl, ?_⟩) ?_ ?_
          rotate_left; exact slv; rotate_left; exact sla
          refine pure_ (i := 1) (N := some 153) (v := ?_) (a' := ?_) #[tt,tt,ff,ff,ff,ff,ff,ff,ff,ff,ff,ff,ff,ff,ff,ff,ff] rfl rfl (any_of HT_.out (by kernel_rfl)) (fun _ _ _ h => h) (Or.inl ⟨by rfl, ?_⟩) ?_ ?_
          rotate_left; exact slv; rotate_left; exact sla
          refine pure_ (i := 2) (N := some 154) (v := ?_) (a' := ?_) #[tt,tt,tt,ff,ff,ff,ff,ff,ff,ff,ff,ff,ff,ff,ff,ff,ff] rfl rfl (any_of HT_.out (by kernel_rfl)) (fun _ _ _ h => h) (Or.inl ⟨by rfl, ?_⟩) ?_ ?_
          rotate_left; exact slv; rotate_left; exact sla
          refine pure_ (i := 3) (N := some 155) (v := ?_) (a' := ?_) #[tt,tt,tt,tt,ff,ff,ff,ff,ff,ff,ff,ff,ff,ff,ff,ff,ff] rfl rfl (any_of HT_.out (by kernel_rfl)) (fun _ _ _ h => h) (Or.inl ⟨by rfl, ?_⟩) ?_ ?_
          rotate_left; exact slv; rotate_left; exact sla
          refine pure_ (i := 5) (N := some 157) (v := ?_) (a' := ?_) #[tt,tt,tt,tt,ff,tt,ff,ff,ff,ff,ff,ff,ff,ff,ff,ff,ff] rfl rfl (any_of HT_.out (by kernel_rfl)) (fun _ _ _ h => h) (Or.inl ⟨by rfl, ?_⟩) ?_ ?_
          rotate_left; exact slv; rotate_left; exact sla
          refine pure_ (i := 6) (N := some 158) (v := ?_) (a' := ?_) #[tt,tt,tt,tt,ff,tt,tt,ff,ff,ff,ff,ff,ff,ff,ff,ff,ff] rfl rfl (any_of HT_.out (by kernel_rfl)) (fun _ _ _ h => h) (Or.inl ⟨by rfl, ?_⟩) ?_ ?_
          rotate_left; exact slv; rotate_left; exact sla
          refine pure_ (i := 7) (N := some 159) (v := ?_) (a' := ?_) #[tt,tt,tt,tt,ff,tt,tt,tt,ff,ff,ff,ff,ff,ff,ff,ff,ff] rfl rfl (any_of HT_.out (by kernel_rfl)) (fun _ _ _ h => h) (Or.inl ⟨by rfl, ?_⟩) ?_ ?_
          rotate_left; exact slv; rotate_left; exact sla
          refine take_ (i := 4) (N := some 156) (v := ?_) (a' := ?_) #[tt,tt,tt,tt,tt,tt,tt,tt,ff,ff,ff,ff,ff,ff,ff,ff,ff] rfl rfl (take_ofW HT_.out HW_.out (by kernel_rfl)) (fun _ _ _ h => h) (Or.inl ⟨by rfl, ?_⟩) hHeld ?_ ?_
          rotate_left; exact slt2; rotate_left; exact sla
          refine take_ (i := 8) (N := some 160) (v := ?_) (a' := ?_) #[tt,tt,tt,tt,tt,tt,tt,tt,tt,ff,ff,ff,ff,ff,ff,ff,ff] rfl rfl (take_ofW HT_.out HW_.out (by kernel_rfl)) (fun _ _ _ h => h) (Or.inl ⟨by rfl, ?_⟩) hHeld ?_ ?_
          rotate_left; exact slt2; rotate_left; exact sla
          refine one_ (i := 9) (N := some 161) #[tt,tt,tt,tt,tt,tt,tt,tt,tt,tt,ff,ff,ff,ff,ff,ff,ff] rfl rfl (one_of HT_.out (by kernel_rfl)) (by decide) (fun K hK => ?_)
          refine goes_ Try.func14 (by kernel_rfl) rfl #[.pointer (some ⟨g, 0, none⟩), .int .i64 u, .int .i64 v] (by rfl) rfl rfl (by simp only [List.map_toArray, List.map_cons, List.map_nil]; rfl) ?_
          with_reducible refine (HWW.out _ HB7.out).mono ?_
          rintro e w8 ⟨gp, cp, zc, rfl, hrp, hb8⟩
          refine ⟨_, rfl, ?_⟩
          have HB8 := Aside0.mk (below_step HB7.out hb8)
          have HRP := Aside0.mk hrp
          clear hb8 hrp
          refine hK.out _ _ ⟨(HQ.out _ HB8.out).1, (HQ.out _ HB8.out).2⟩ (fun hHeld => ?_)
          clear hK K
          refine norm_ (a' := ?_) ?_ ?_
          rotate_left
          · show Act.put _ (some 161) _ = _
            simp only [Act.put, List.setIfInBounds_toArray, List.set_cons_zero, List.set_cons_succ, i64_w, i32_w]
            rfl
          refine pure_ (i := 10) (N := some 151) (v := ?_) (a' := ?_) #[tt,tt,tt,tt,tt,tt,tt,tt,tt,tt,tt,ff,ff,ff,ff,ff,ff] rfl rfl (any_of HT_.out (by kernel_rfl)) (fun _ _ _ h => h) (Or.inl ⟨by rfl, ?_⟩) ?_ ?_
          rotate_left; exact slv; rotate_left; exact sla
          refine pure_ (i := 11) (N := some 162) (v := ?_) (a' := ?_) #[tt,tt,tt,tt,tt,tt,tt,tt,tt,tt,tt,tt,ff,ff,ff,ff,ff] rfl rfl (any_of HT_.out (by kernel_rfl)) (fun _ _ _ h => h) (Or.inl ⟨by rfl, ?_⟩) ?_ ?_
          rotate_left; exact slv; rotate_left; exact sla
          refine pure_ (i := 12) (N := some 163) (v := ?_) (a' := ?_) #[tt,tt,tt,tt,tt,tt,tt,tt,tt,tt,tt,tt,tt,ff,ff,ff,ff] rfl rfl (any_of HT_.out (by kernel_rfl)) (fun _ _ _ h => h) (Or.inl ⟨by rfl, ?_⟩) ?_ ?_
          rotate_left; exact slv; rotate_left; exact sla
          refine pure_ (i := 13) (N := some 164) (v := ?_) (a' := ?_) #[tt,tt,tt,tt,tt,tt,tt,tt,tt,tt,tt,tt,tt,tt,ff,ff,ff] rfl rfl (any_of HT_.out (by kernel_rfl)) (fun _ _ _ h => h) (Or.inl ⟨by rfl, ?_⟩) ?_ ?_
          rotate_left; exact slv; rotate_left; exact sla
          refine pure_ (i := 14) (N := some 22) (v := ?_) (a' := ?_) #[tt,tt,tt,tt,tt,tt,tt,tt,tt,tt,tt,tt,tt,tt,tt,ff,ff] rfl rfl (any_of HT_.out (by kernel_rfl)) (fun _ _ _ h => h) (Or.inl ⟨by rfl, ?_⟩) ?_ ?_
          rotate_left; exact slv; rotate_left; exact sla
          refine pure_ (i := 15) (N := some 23) (v := ?_) (a' := ?_) #[tt,tt,tt,tt,tt,tt,tt,tt,tt,tt,tt,tt,tt,tt,tt,tt,ff] rfl rfl (any_of HT_.out (by kernel_rfl)) (fun _ _ _ h => h) (Or.inl ⟨by rfl, ?_⟩) ?_ ?_
          rotate_left; exact slv; rotate_left; exact sla
          refine pure_ (i := 16) (N := some 24) (v := ?_) (a' := ?_) #[tt,tt,tt,tt,tt,tt,tt,tt,tt,tt,tt,tt,tt,tt,tt,tt,tt] rfl rfl (any_of HT_.out (by kernel_rfl)) (fun _ _ _ h => h) (Or.inl ⟨by rfl, ?_⟩) ?_ ?_
          rotate_left; exact slv; rotate_left; exact sla
          refine done_ (done_of HT_.out (by kernel_rfl)) ?_
          try clear hHeld
          have HCL : Aside0 (L ≤ cl) := ⟨by have := (Kd.R_reads' (HRN.out w8 (below_step HBW.out HB8.out))).2.1; exact this⟩
          obtain ⟨B, hB⟩ : ∃ B, B = (if cl = p then some (⟨gl, 0, none⟩ : Addr) else (some (⟨gl, 0, none⟩ : Addr)).map (·.add (p * 1))) := ⟨_, rfl⟩
          have hcut : ∀ W : World, (Instr.slice 32 (.slice (some ⟨gl, 0, none⟩) L cl) (some (.int .i64 (p : Int))) (some (.int .i64 ((q + 1 : Nat) : Int))) none).run Try.prog W = .ok (.slice B ZL (cl - p)) W := by
            intro W
            obtain ⟨i0, hi, hs⟩ := Option.map_eq_some_iff.1 infoInt
            simp only [Prod.mk.injEq] at hs
            have h := cut_mid 32 3 .i64 .i64 Try.underlying32 hi 1 hs.2.1 (some ⟨gl, 0, none⟩) L cl (p : Int) ((q + 1 : Nat) : Int) (by omega) (by have := HPQ.out; omega) (by have := HPQ.out; omega) HCL.out W
            rw [Int.toNat_natCast, Int.toNat_natCast, ← hB, ← HZL.out.2] at h
            exact h
          have HSA : Aside0 (Calls Try.prog 16 #[.slice (some ⟨gp, 0, none⟩) ZL cp, .slice B ZL (cl - p)] w8 fun e w' => e = .returned (.bool true) ∧ Below w8.heap.size w8 w') := ⟨by
            have h1 := (Kd.R_reads' HRP.out).2.2
            rw [HZL.out.1]
            have h0 : Kd.C kInt w8 (some ⟨gl, 0, none⟩) l.length l := by
              have := (Kd.R_reads' (HRN.out w8 (below_step HBW.out HB8.out))).2.2
              exact this
            have h2 := Kd.C_mid (lo := p) (hi := q + 1) (c := cl) h0 (by have := HPQ.out; omega) (by have := HPQ.out; have := HL.out; omega) (by have := HCL.out; have := HL.out; omega)
            rw [← HZ.out] at h2
            have h3 := same_calls (some ⟨gp, 0, none⟩) B cp (cl - p) Z Z w8 h1 (by rw [hB]; exact h2) (by have h4 := HZL.out; have h5 := HPQ.out; have h6 := HLE.out; have h7 : Z.length = q + 1 - p := by rw [← h4.1]; exact h4.2
                                                                                                          omega)
            rw [decide_eq_true rfl] at h3
            exact h3⟩
          have hwq : wrap64 ((q : Int) + 1) = ((q + 1 : Nat) : Int) := by unfold wrap64; have := HPQ.out; have := HLE.out; omega
          obtain ⟨qq, hqq⟩ : ∃ qq, qq = q + 1 := ⟨_, rfl⟩
          rw [← hqq] at hwq hcut
          have ds : (sm == zf) = true := by rw [beq_iff_eq]; exact HSZ.out
          have HB9 := Aside0.mk (below_step HB6.out HB8.out)
          clear hqq hB
          go_wp2_with (first | fail | ((with_reducible refine gate_upon ?_); go_simp))
          refine HSA.out.mono ?_
          rintro e w9 ⟨rfl, hb9⟩
          have HB10 := Aside0.mk (below_step HB9.out hb9)
          clear hb9 hcut hwq
          go_wp2_with (first | fail | ((with_reducible refine gate_upon ?_); go_simp))
          go_ret
          exact ⟨rfl, HB10.out⟩
        | succ gk2 =>
         as_aux_lemma =>
          have hkl : k < L := by have := HK.out; omega
          have hlt : decide (k < L) = true := decide_eq_true hkl
          have hltk : (k : Int) < L := by omega
          have hltj : (j : Int) < L := by have := HK.out; omega
          have HK1 : Aside0 (k + 1 + gk2 = L) := ⟨by have := HK.out; omega⟩
          have HWK : Aside0 (wrap64 ((k : Int) + 1) = ((k + 1 : Nat) : Int)) := ⟨by unfold wrap64; have := HLE.out; omega⟩
          have HWJ : Aside0 (wrap64 ((k : Int) - 1) = (j : Int)) := ⟨by unfold wrap64; have := HLE.out; have := HK.out; omega⟩
          obtain ⟨a, ha⟩ : ∃ a, l[j]? = some a := ⟨_, List.getElem?_eq_getElem (by have := HK.out; have := HL.out; omega)⟩
          obtain ⟨b, hb⟩ : ∃ b, l[j + 1]? = some b := ⟨_, List.getElem?_eq_getElem (by have := HK.out; have := HL.out; omega)⟩
          obtain ⟨xc, hxc⟩ : ∃ xc, xc = costL (outOf out a) b := ⟨_, rfl⟩
          have HXC : Aside0 (1 ≤ xc ∧ xc ≤ 1048576) := ⟨by rw [hxc]; exact HW.out.roads HG.out HNN.out HFT.out.1 HC.out j a b ha hb⟩
          have HCW : Aside0 (∀ W, Below w5.heap.size w5 W → Calls Try.prog 15 #[.pointer (some ⟨g, 0, none⟩), .int .i64 a, .int .i64 b] W fun e w' => e = .returned (.int .i64 xc) ∧ Below W.heap.size W w') := ⟨fun W h => by rw [hxc]; exact HCO.out W a b h⟩
          have HS1 : Aside0 (sm + xc = sumK out (l.take (k + 1)) ∧ 0 ≤ sm + xc ∧ sm + xc ≤ 1048576 * ((k + 1 : Nat) : Int)) := ⟨by
            have h1 := sumK_take out l j a b ha hb
            have h2 := HSM.out
            have h3 := HXC.out
            rw [← hxc] at h1
            rw [HK.out.1] at h2 ⊢
            refine ⟨by rw [h2.1, ← h1], by omega, by omega⟩⟩
          have HWS : Aside0 (wrap64 (sm + xc) = sm + xc) := ⟨by unfold wrap64; have := HS1.out; have := HLE.out; omega⟩
          have HQ : Aside0 (∀ W, Below w5.heap.size w5 W → W.cell? ⟨gl, j, none⟩ = some (.int .i64 a) ∧ W.cell? ⟨gl, k, none⟩ = some (.int .i64 b)) := ⟨fun W h => ⟨HAT.out W j a h ha, HAT.out W k b h (by rw [HK.out.1]; exact hb)⟩⟩
          have hwj := HWJ.out
          clear ha hb hxc
          go_wp2_with (first | fail | ((with_reducible refine gate_upon ?_); go_simp))
          have hwj := HWJ.out
          refine start_ (n := 12) (S := fun w' => w'.cell? ⟨gl, j, none⟩ = some (.int .i64 a) ∧ w'.cell? ⟨gl, k, none⟩ = some (.int .i64 b)) (ds := []) #[ff,ff,ff,ff,ff,ff,ff,ff,ff,ff,ff,ff] (by kernel_rfl) rfl rfl ⟨(HQ.out _ HBW.out).1, (HQ.out _ HBW.out).2⟩ (fun hHeld => ?_)
          refine with_tabW pieces.tab14 pieces.bits14 (fun HT_ HW_ => ?_)
          have HB7 : Aside0 (Below w5.heap.size w5 wr.drew) := ⟨below_drew HBW.out⟩
          generalize wr.drew = w7 at HB7 hHeld ⊢
          refine pure_ (i := 0) (N := some 114) (v := ?_) (a' := ?_) #[tt,ff,ff,ff,ff,ff,ff,ff,ff,ff,ff,ff] rfl rfl (any_of HT_.out (by kernel_rfl)) (fun _ _ _ h => h) (Or.inl ⟨by rfl, ?_⟩) ?_ ?_
          rotate_left; exact slv; rotate_left; exact sla
          refine pure_ (i := 1) (N := some 115) (v := ?_) (a' := ?_) #[tt,tt,ff,ff,ff,ff,ff,ff,ff,ff,ff,ff] rfl rfl (any_of HT_.out (by kernel_rfl)) (fun _ _ _ h => h) (Or.inl ⟨by rfl, ?_⟩) ?_ ?_
          rotate_left; exact slv; rotate_left; exact sla
          refine pure_ (i := 2) (N := some 116) (v := ?_) (a' := ?_) #[tt,tt,tt,ff,ff,ff,ff,ff,ff,ff,ff,ff] rfl rfl (any_of HT_.out (by kernel_rfl)) (fun _ _ _ h => h) (Or.inl ⟨by rfl, ?_⟩) ?_ ?_
          rotate_left; exact slv; rotate_left; exact sla
          refine pure_ (i := 3) (N := some 117) (v := ?_) (a' := ?_) #[tt,tt,tt,tt,ff,ff,ff,ff,ff,ff,ff,ff] rfl rfl (any_of HT_.out (by kernel_rfl)) (fun _ _ _ h => h) (Or.inl ⟨by rfl, ?_⟩) ?_ ?_
          rotate_left; exact slv; rotate_left; exact sla
          refine pure_ (i := 4) (N := some 118) (v := ?_) (a' := ?_) #[tt,tt,tt,tt,tt,ff,ff,ff,ff,ff,ff,ff] rfl rfl (any_of HT_.out (by kernel_rfl)) (fun _ _ _ h => h) (Or.inl ⟨by rfl, ?_⟩) ?_ ?_
          rotate_left; exact slv; rotate_left; exact sla
          refine pure_ (i := 6) (N := some 120) (v := ?_) (a' := ?_) #[tt,tt,tt,tt,tt,ff,tt,ff,ff,ff,ff,ff] rfl rfl (any_of HT_.out (by kernel_rfl)) (fun _ _ _ h => h) (Or.inl ⟨by rfl, ?_⟩) ?_ ?_
          rotate_left; exact slv; rotate_left; exact sla
          refine pure_ (i := 7) (N := some 121) (v := ?_) (a' := ?_) #[tt,tt,tt,tt,tt,ff,tt,tt,ff,ff,ff,ff] rfl rfl (any_of HT_.out (by kernel_rfl)) (fun _ _ _ h => h) (Or.inl ⟨by rfl, ?_⟩) ?_ ?_
          rotate_left; exact slv; rotate_left; exact sla
          refine pure_ (i := 8) (N := some 122) (v := ?_) (a' := ?_) #[tt,tt,tt,tt,tt,ff,tt,tt,tt,ff,ff,ff] rfl rfl (any_of HT_.out (by kernel_rfl)) (fun _ _ _ h => h) (Or.inl ⟨by rfl, ?_⟩) ?_ ?_
          rotate_left; exact slv; rotate_left; exact sla
          refine take_ (i := 5) (N := some 119) (v := ?_) (a' := ?_) #[tt,tt,tt,tt,tt,tt,tt,tt,tt,ff,ff,ff] rfl rfl (take_ofW HT_.out HW_.out (by kernel_rfl)) (fun _ _ _ h => h) (Or.inl ⟨by rfl, ?_⟩) hHeld ?_ ?_
          rotate_left; exact slt2; rotate_left; exact sla
          refine take_ (i := 9) (N := some 123) (v := ?_) (a' := ?_) #[tt,tt,tt,tt,tt,tt,tt,tt,tt,tt,ff,ff] rfl rfl (take_ofW HT_.out HW_.out (by kernel_rfl)) (fun _ _ _ h => h) (Or.inl ⟨by rfl, ?_⟩) hHeld ?_ ?_
          rotate_left; exact slt2; rotate_left; exact sla
          refine one_ (i := 10) (N := some 124) #[tt,tt,tt,tt,tt,tt,tt,tt,tt,tt,tt,ff] rfl rfl (one_of HT_.out (by kernel_rfl)) (by decide) (fun K hK => ?_)
          refine goes_ Try.func15 (by kernel_rfl) rfl #[.pointer (some ⟨g, 0, none⟩), .int .i64 a, .int .i64 b] (by rfl) rfl rfl (by simp only [List.map_toArray, List.map_cons, List.map_nil]; rfl) ?_
          with_reducible refine (HCW.out _ HB7.out).mono ?_
          rintro e w8 ⟨rfl, hb8⟩
          refine ⟨_, rfl, ?_⟩
          have HB8 := Aside0.mk (below_step HB7.out hb8)
          clear hb8
          refine hK.out _ _ ⟨(HQ.out _ HB8.out).1, (HQ.out _ HB8.out).2⟩ (fun hHeld => ?_)
          clear hK K
          refine norm_ (a' := ?_) ?_ ?_
          rotate_left
          · show Act.put _ (some 124) _ = _
            simp only [Act.put, List.setIfInBounds_toArray, List.set_cons_zero, List.set_cons_succ, i64_w, i32_w]
            rfl
          refine pure_ (i := 11) (N := some 21) (v := ?_) (a' := ?_) #[tt,tt,tt,tt,tt,tt,tt,tt,tt,tt,tt,tt] rfl rfl (any_of HT_.out (by kernel_rfl)) (fun _ _ _ h => h) (Or.inl ⟨by rfl, ?_⟩) ?_ ?_
          rotate_left; exact slv; rotate_left; exact sla
          refine done_ (done_of HT_.out (by kernel_rfl)) ?_
          try clear hHeld hwj
          have dx : decide (xc < 1) = false := decide_eq_false (by have := HXC.out; omega)
          have hws := HWS.out
          have hwk := HWK.out
          go_wp2_with (first | fail | ((with_reducible refine gate_upon ?_); go_simp))
          go_roundg gk2
          case measure => first | exact Nat.lt_succ_self _ | omega
          case rel => exact ⟨k, k + 1, sm + xc, rfl, by first | rfl | (simp; done) | (rw [hws]; done) | (rw [hws]; rfl), by first | rfl | (simp; done) | (rw [hwk]; done) | (rw [hwk]; rfl), ⟨rfl, HK1.out⟩, HS1, HB8⟩
end Go.Proofs.Ytgbfhhmmkhjhhaa.Paths
