/- Paths: the walk of PathsLeast. Conditions: those that stand in each theorem. Written by wip/gen/netlaws.py. -/
import Derived.Test.YtgbfhhmmkhjhhaaCPathsPi
import Derived.Test.YtgbfhhmmkhjhhaaCSl
namespace Go.Proofs.Ytgbfhhmmkhjhhaa.Paths
open Go.RowKit Go.Proofs.YtgbfhhmmkhjhhaaW.PrintWords Go.Proofs.YtgbfhhmmkhjhhaaW.PrintLast Go.Proofs.YtgbfhhmmkhjhhaaW.PrintMore Go.Proofs.Ytgbfhhmmkhjhhaa.HeapW Go.Proofs.Ytgbfhhmmkhjhhaa.HeapP Go.Proofs.Ytgbfhhmmkhjhhaa.MapAt Go.Proofs.Ytgbfhhmmkhjhhaa.Dij
open Go.Proofs.Ytgbfhhmmkhjhhaa.HeapIR hiding It Pt kIt_K infoZ reps_single
open Go.Proofs.Ytgbfhhmmkhjhhaa.Roads (NetS outOf isN isN_iff isN_no nodeP roadP okP kPt kRd flat_keep Flat flatPt flatRd rd_at infoPtz infoRd kPt_mk reps_single kPt_K kRd_K)
set_option linter.unusedVariables false
set_option linter.unusedSimpArgs false
def least.T11 : Bool × List (List Nat × List Nat) := (true, [([], []), ([], []), ([0, 1], [0, 1]), ([2], [2]), ([], []), ([4], [4]), ([3, 5], [3, 5]), ([6, 5, 0, 1, 2, 3, 4, 5, 6], [6])])
def least.B11 : List Nat := [0, 0, 3, 7, 0, 16, 63, 127]
theorem least.tab11 : rtab .any (opsOf Try.f5 11) = least.T11 := by kernel_rfl
theorem least.bits11 : waitsOk least.T11.2 least.B11 = true := by kernel_rfl
def least.T19 : Bool × List (List Nat × List Nat) := (true, [([], []), ([], []), ([1], [1]), ([2], [2]), ([], []), ([], []), ([5], [5]), ([6], [6]), ([4, 7], [4, 7]), ([8], [8]), ([0, 3, 9], [0, 3, 9]), ([10], [10]), ([11], [11]), ([11], [11]), ([11], [11]), ([12, 10, 0, 1, 2, 3, 4, 5, 6, 7, 8, 9, 10, 11, 12], [12]), ([13, 15, 0, 1, 2, 3, 4, 5, 6, 7, 8, 9, 10, 11, 12, 13, 15], [13]), ([14, 16, 0, 1, 2, 3, 4, 5, 6, 7, 8, 9, 10, 11, 12, 13, 14, 15, 16], [14])])
def least.B19 : List Nat := [0, 0, 2, 6, 0, 0, 32, 96, 240, 496, 1023, 2047, 4095, 4095, 4095, 8191, 49151, 131071]
theorem least.tab19 : rtab .any (opsOf Try.f5 19) = least.T19 := by kernel_rfl
theorem least.bits19 : waitsOk least.T19.2 least.B19 = true := by kernel_rfl
def least.T27 : Bool × List (List Nat × List Nat) := (true, [([], []), ([], []), ([0, 1], [0, 1]), ([2], [2]), ([], []), ([], []), ([4, 5], [4, 5]), ([6], [6]), ([3, 7], [3, 7])])
def least.B27 : List Nat := [0, 0, 3, 7, 0, 0, 48, 112, 255]
theorem least.tab27 : rtab .any (opsOf Try.f5 27) = least.T27 := by kernel_rfl
theorem least.bits27 : waitsOk least.T27.2 least.B27 = true := by kernel_rfl
def least.T28 : Bool × List (List Nat × List Nat) := (true, [([], []), ([], []), ([0, 1], [0, 1]), ([2], [2]), ([], []), ([], []), ([4, 5], [4, 5]), ([6], [6]), ([3, 7], [3, 7]), ([8, 0, 1, 2, 3, 4, 5, 6, 7, 8], [8])])
def least.B28 : List Nat := [0, 0, 3, 7, 0, 0, 48, 112, 255, 511]
theorem least.tab28 : rtab .any (opsOf Try.f5 28) = least.T28 := by kernel_rfl
theorem least.bits28 : waitsOk least.T28.2 least.B28 = true := by kernel_rfl
/-- the way that has been gone so far -/
def WayI (n : Nat) (outf : Int → List Rd) (m : List Int) (sm : Int) (i : Nat) : Prop := (m = [] ∧ sm = 0 ∧ i = 0) ∨ ∃ f t : Int, Goes outf t f m sm ∧ (0 ≤ f ∧ f < n) ∧ 0 ≤ t ∧ t < n
theorem row_far {W W' : World} {base base' g : Nat} {ps : List Roads.Pt} {out : List (List Rd)} {F : Nat → Prop} {v : Value} {m : List Int} (hn : NetS W base g ps out F) (hF : ∀ k, F k → k < base') (hr : kInt.R 3 W base' (fun _ => True) v m) (hg : W.grownBy W' v.ownBlock) : NetS W' base g ps out F :=
  hn.chg (Chg.of_grown hg) (fun k hk q => by have := Kd.R_base hr k q.symm; have := hF k hk; omega)
set_option maxHeartbeats 16000000 in
set_option maxRecDepth 100000 in
theorem least_walk (PA RA : Option Addr) (pc rc : Nat) (pl : List Roads.Pt) (rl : List Rd) (A1 : Option Addr) (c1 : Nat) (ol : List Int) (w : World) (hP : Kd.C kPt w PA pl.length pl) (hR : Kd.C kRd w RA rl.length rl) (hp : ∀ p ∈ pl, okP p) (hpl : pl.length ≤ 100000000000000) (hrl : rl.length ≤ 5864062014634) (hO : Kd.C kInt w A1 ol.length ol) (hol : ol.length ≤ 1048576) :
    Calls Try.prog 5 #[.agg #[.slice PA pl.length pc, .slice RA rl.length rc], .slice A1 ol.length c1] w fun e w' => e = .returned (.bool true) ∧ Below w.heap.size w w' := by
  have qe := eql_ptr
  obtain ⟨OL, hOL⟩ : ∃ OL, OL = ol.length := ⟨_, rfl⟩
  have HOL : Aside0 (OL = ol.length ∧ OL ≤ 1048576) := ⟨hOL, by omega⟩
  have HO := Aside0.mk hO
  rw [← hOL]
  clear hO hol hOL
  obtain ⟨pn, hpn⟩ : ∃ pn, pn = pl.length := ⟨_, rfl⟩
  obtain ⟨rn, hrn⟩ : ∃ rn, rn = rl.length := ⟨_, rfl⟩
  have HB0 : Aside0 (Below w.heap.size w (w.alloc (.cells #[.slice PA pn pc, .slice RA rn rc] 25))) := ⟨below_alloc (Below.refl _ _) _⟩
  have HLD := Aside0.mk (laid_calls PA RA pc rc pl rl (w.alloc (.cells #[.slice PA pn pc, .slice RA rn rc] 25)) (Kd.C_below hP HB0.out) (Kd.C_below hR HB0.out) hp hpl hrl)
  rw [← hpn, ← hrn] at HLD
  rw [← hpn, ← hrn]
  have HT0 : Aside0 ((w.alloc (.cells #[.slice PA pn pc, .slice RA rn rc] 25)).heap[w.heap.size]? = some (.cells #[.slice PA pn pc, .slice RA rn rc] 25)) := ⟨blk_new _ _⟩
  clear hP hR hp hpl hrl hpn hrn
  go_enter Try.func5, Try.ntmps5
  have hx0 : (w.alloc (.cells #[.slice PA pn pc, .slice RA rn rc] 25)).cell? ⟨w.heap.size, 0, none⟩ = some (.slice PA pn pc) := (blk_cell HT0.out 0).trans rfl
  have hx1 : (w.alloc (.cells #[.slice PA pn pc, .slice RA rn rc] 25)).cell? ⟨w.heap.size, 1, none⟩ = some (.slice RA rn rc) := (blk_cell HT0.out 1).trans rfl
  go_wp2_with fail
  refine HLD.out.mono ?_
  rintro e w1 ⟨g, F, ps, out, RB, rb, R, rfl, hbe, -⟩
  have HN1 := Aside0.mk (net_lower hbe.net HB0.out.size)
  have HB1 := Aside0.mk (below_step HB0.out hbe.below)
  have HFB : Aside0 (∀ k, F k → w.heap.size + 1 ≤ k) := ⟨fun k hk => by have h := (hbe.net.ge k hk).1; rw [World.size_alloc] at h; exact h⟩
  obtain ⟨pm, hpm⟩ : ∃ pm, pm = ps.length := ⟨_, rfl⟩
  obtain ⟨rm, hrm⟩ : ∃ rm, rm = R.length := ⟨_, rfl⟩
  rw [← hpm, ← hrm]
  have HXA := Aside0.mk (blk_new w1 (.cells #[.int .i64 0, .slice none 0 0] 28))
  clear hbe hpm hrm hx0 hx1 HLD HT0 HB0
  go_wp2_with (first | ((with_reducible refine gate_store (t := 28) (p := 6) (v := .tmp 21) rfl ?_); refine wpList_store_row rfl 28 (.tmp 6) (.tmp 21) rfl w1.heap.size #[.int .i64 (pm : Nat), .slice RB rm rb] rfl rfl _ _ HXA.out infoNet rfl (by simp [Value.oneCell']) ?_; have hs := chg_row (cs := #[.int .i64 (pm : Nat), .slice RB rm rb]) HXA.out; have HXB := Aside0.mk hs.1; have hbx := (Chg.of_below (F := (fun _ => False)) (below_alloc (Below.refl w1.heap.size w1) (.cells #[.int .i64 0, .slice none 0 0] 28))).then hs.2 (fun i hi => Or.inr (Nat.le_of_eq (Eq.symm hi))); have HBB : Aside0 (Below w1.heap.size w1 ((w1.alloc (.cells #[.int .i64 0, .slice none 0 0] 28)).setRow w1.heap.size #[.int .i64 (pm : Nat), .slice RB rm rb])) := ⟨hbx.below (Nat.le_refl _) (fun _ q => q.elim)⟩; clear hs hbx; generalize (w1.alloc (.cells #[.int .i64 0, .slice none 0 0] 28)).setRow w1.heap.size #[.int .i64 (pm : Nat), .slice RB rm rb] = w2 at HXB HBB ⊢) | ((with_reducible refine gate_upon ?_); go_simp))
  refine (lives_calls _).mono ?_
  rintro e w3 ⟨rfl, hb3⟩
  have HN3 := Aside0.mk (HN1.out.below (below_step HBB.out hb3))
  have HB3 := Aside0.mk (below_step HB1.out (below_step HBB.out hb3))
  have HN0 : Aside0 (∀ k, F k → k < w3.heap.size) := ⟨fun k hk => (HN3.out.ge k hk).2⟩
  obtain ⟨n, hn⟩ : ∃ n, out.length = n := ⟨_, rfl⟩
  have HLN := Aside0.mk hn
  have HG : Aside0 (Roads.Good n out) := ⟨by rw [← hn]; exact HN3.out.good⟩
  have HN4 : Aside0 (n ≤ 4096) := ⟨by have := HN3.out.len; omega⟩
  clear hn hb3 HN1 HB1 HXA HXB HBB
  have HNX : Aside0 (Net n (outOf out)) := ⟨net_of HG.out HLN.out⟩
  have HND := Aside0.mk HN3.out.nodes
  rw [HLN.out] at HND
  by_cases h0 : OL = 0
  · have d0 : ((OL : Int) == 0) = true := by rw [beq_iff_eq]; omega
    clear h0
    go_wp2_with (first | fail | ((with_reducible refine gate_upon ?_); go_simp))
    go_ret
    exact ⟨rfl, HB3.out⟩
  have d0 : ((OL : Int) == 0) = false := by rw [beq_eq_false_iff_ne]; omega
  have HO0 := Aside0.mk h0
  clear h0
  by_cases hn0 : n = 0
  · have d1 : ((n : Int) == 0) = true := by rw [beq_iff_eq]; omega
    clear hn0
    go_wp2_with (first | fail | ((with_reducible refine gate_upon ?_); go_simp))
    refine HND.out.mono ?_
    rintro e w4 ⟨rfl, hw⟩
    have hw := hw.symm
    subst hw
    go_wp2_with (first | fail | ((with_reducible refine gate_upon ?_); go_simp))
    go_ret
    exact ⟨rfl, HB3.out⟩
  as_aux_lemma =>
  have d1 : ((n : Int) == 0) = false := by rw [beq_eq_false_iff_ne]; omega
  have hnp : (0 : Int) < n := by omega
  have hnz : ¬ n = 0 := hn0
  clear hn0
  go_wp2_with (first | fail | ((with_reducible refine gate_upon ?_); go_simp))
  refine HND.out.mono ?_
  rintro e w4 ⟨rfl, hw⟩
  have hw := hw.symm
  subst hw
  clear HND
  go_wp2_with (first | fail | ((with_reducible refine gate_upon ?_); go_simp))
  go_loopg [8, 9, 10] OL (fun kq v8 v9 v10 w' => ∃ (i ML mc : Nat) (mA : Option Addr) (m : List Int) (sm : Int), v8 = .slice mA ML mc ∧ v9 = .int .i64 sm ∧ v10 = .int .i64 i ∧ Aside0 (i + kq = OL) ∧ Aside0 (ML = m.length ∧ ML ≤ i) ∧ Aside0 (WayI n (outOf out) m sm i) ∧ Aside0 (kInt.R 3 w' w3.heap.size (fun _ => True) (.slice mA ML mc) m) ∧ Aside0 (NetS w' w.heap.size g ps out F) ∧ Aside0 (Below w3.heap.size w3 w'))
  case atStart => exact ⟨0, 0, 0, none, [], 0, rfl, rfl, rfl, ⟨by omega⟩, ⟨rfl, Nat.le_refl _⟩, ⟨Or.inl ⟨rfl, rfl, rfl⟩⟩, ⟨Kd.R_nil _ _ _ _ _⟩, HN3, ⟨Below.refl _ _⟩⟩
  case round =>
   as_aux_lemma =>
    clear HN3
    obtain ⟨i, ML, mc, mA, m, sm, rfl, rfl, rfl, HI, HML, HWI, HRM, HN, HBW⟩ := hrel
    cases gk with
    | zero =>
     as_aux_lemma =>
      have hi : OL = i := by have := HI.out; omega
      subst hi
      have hgt : decide (OL < OL) = false := decide_eq_false (by omega)
      obtain ⟨f, t, HGO, HF, HT⟩ : ∃ f t : Int, Aside0 (Goes (outOf out) t f m sm) ∧ Aside0 (0 ≤ f ∧ f < n) ∧ Aside0 (0 ≤ t ∧ t < n) := by
        rcases HWI.out with ⟨_, _, q⟩ | ⟨f, t, q1, q2, q3⟩
        · exact absurd q HO0.out
        · exact ⟨f, t, ⟨q1⟩, ⟨q2⟩, ⟨q3⟩⟩
      have HLS : Aside0 (1 ≤ ML ∧ m[0]? = some f ∧ m[ML - 1]? = some t) := ⟨by
        obtain ⟨q, hq⟩ := HGO.out.ne
        have h := HGO.out.last
        rw [HML.out.1]
        exact ⟨h.1, by rw [hq]; rfl, h.2⟩⟩
      have hmf := Kd.R_form HRM.out (by have := HLS.out; have := HML.out; omega)
      obtain ⟨gm, mc', he, _⟩ := hmf
      simp only [Value.slice.injEq] at he
      obtain ⟨rfl, -, rfl⟩ := he
      have HAM : Aside0 (∀ (W : World) (k : Nat) (v : Int), Below wr.heap.size wr W → m[k]? = some v → W.cell? ⟨gm, k, none⟩ = some (.int .i64 v)) := ⟨fun W k v hb hk => by
        have hkl : k < ML := by rw [HML.out.1]; exact (List.getElem?_eq_some_iff.1 hk).1
        have h := row_nat (Kd.R_below HRM.out hb) k hkl
        have e : cv m (k : Int) = v := by unfold cv; rw [Int.toNat_natCast, List.getD_eq_getElem?_getD, hk]; rfl
        rwa [e] at h⟩
      have HB6 := Aside0.mk (below_step HB3.out HBW.out)
      have HWW : Aside0 (∀ W, Below wr.heap.size wr W → Calls Try.prog 14 #[.pointer (some ⟨g, 0, none⟩), .int .i64 f, .int .i64 t] W fun e w' => ∃ (gl cl : Nat) (l c : List Int), e = .returned (.tuple #[.slice (some ⟨gl, 0, none⟩) l.length cl, .int .i64 (cv c f), .int .i64 0]) ∧ kInt.R 3 w' W.heap.size (fun _ => True) (.slice (some ⟨gl, 0, none⟩) l.length cl) l ∧ Below W.heap.size W w' ∧ DistTo n (outOf out) t c ∧ WayR (outOf out) c t f l) := ⟨fun W hbb => by
        refine (way_any (HN.out.below hbb) (Nat.le_trans HB6.out.size hbb.size) (fr := f) (tv := t) (by rw [HLN.out, isN_iff.2 HF.out, isN_iff.2 HT.out]; rfl)).mono ?_
        rintro e w' ⟨c, hc, hb', hcase⟩
        rw [HLN.out] at hc
        rcases hcase with ⟨hz', _⟩ | ⟨hz', gl, cl, l, rfl, hr', hwl'⟩
        · have := hc.least HNX.out HGO.out HF.out
          omega
        · exact ⟨gl, cl, l, c, rfl, hr', hb', hc, hwl'⟩⟩
      have HQ : Aside0 (∀ W, Below wr.heap.size wr W → W.cell? ⟨gm, 0, none⟩ = some (.int .i64 f) ∧ W.cell? ⟨gm, ML - 1, none⟩ = some (.int .i64 t)) := ⟨fun W h => ⟨HAM.out W 0 f h HLS.out.2.1, HAM.out W (ML - 1) t h HLS.out.2.2⟩⟩
      obtain ⟨M1, hM1⟩ : ∃ M1, M1 = ML - 1 := ⟨_, rfl⟩
      rw [← hM1] at HQ
      have HM1 : Aside0 (M1 + 1 = ML) := ⟨by have := HLS.out; omega⟩
      have hM1L : (M1 : Int) < ML := by have := HM1.out; omega
      have hM0L : (0 : Int) < ML := by have := HM1.out; omega
      have hM0N : 0 < ML := by have := HM1.out; omega
      have HWM : Aside0 (wrap64 ((ML : Int) - 1) = (M1 : Int)) := ⟨by unfold wrap64; have := HM1.out; have := HML.out; have := HOL.out; omega⟩
      clear hM1
      go_wp2_with (first | fail | ((with_reducible refine gate_upon ?_); go_simp))
      have hwm := HWM.out
      refine start_ (n := 18) (S := fun w' => w'.cell? ⟨gm, 0, none⟩ = some (.int .i64 f) ∧ w'.cell? ⟨gm, M1, none⟩ = some (.int .i64 t)) (ds := []) #[ff,ff,ff,ff,ff,ff,ff,ff,ff,ff,ff,ff,ff,ff,ff,ff,ff,ff] (by kernel_rfl) rfl rfl ⟨(HQ.out _ (Below.refl _ _)).1, (HQ.out _ (Below.refl _ _)).2⟩ (fun hHeld => ?_)
      refine with_tabW least.tab19 least.bits19 (fun HT_ HW_ => ?_)
      have HB7 : Aside0 (Below wr.heap.size wr wr.drew) := ⟨below_drew1 (Below.refl _ _)⟩
      generalize wr.drew = w7 at HB7 hHeld ⊢
      refine pure_ (i := 0) (N := some 76) (v := ?_) (a' := ?_) #[tt,ff,ff,ff,ff,ff,ff,ff,ff,ff,ff,ff,ff,ff,ff,ff,ff,ff] rfl rfl (any_of HT_.out (by kernel_rfl)) (fun _ _ _ h => h) (Or.inl ⟨by rfl, ?_⟩) ?_ ?_
      rotate_left; exact slv; rotate_left; exact sla
      refine pure_ (i := 1) (N := some 77) (v := ?_) (a' := ?_) #[tt,tt,ff,ff,ff,ff,ff,ff,ff,ff,ff,ff,ff,ff,ff,ff,ff,ff] rfl rfl (any_of HT_.out (by kernel_rfl)) (fun _ _ _ h => h) (Or.inl ⟨by rfl, ?_⟩) ?_ ?_
      rotate_left; exact slv; rotate_left; exact sla
      refine pure_ (i := 2) (N := some 78) (v := ?_) (a' := ?_) #[tt,tt,tt,ff,ff,ff,ff,ff,ff,ff,ff,ff,ff,ff,ff,ff,ff,ff] rfl rfl (any_of HT_.out (by kernel_rfl)) (fun _ _ _ h => h) (Or.inl ⟨by rfl, ?_⟩) ?_ ?_
      rotate_left; exact slv; rotate_left; exact sla
      refine pure_ (i := 4) (N := some 80) (v := ?_) (a' := ?_) #[tt,tt,tt,ff,tt,ff,ff,ff,ff,ff,ff,ff,ff,ff,ff,ff,ff,ff] rfl rfl (any_of HT_.out (by kernel_rfl)) (fun _ _ _ h => h) (Or.inl ⟨by rfl, ?_⟩) ?_ ?_
      rotate_left; exact slv; rotate_left; exact sla
      refine pure_ (i := 5) (N := some 81) (v := ?_) (a' := ?_) #[tt,tt,tt,ff,tt,tt,ff,ff,ff,ff,ff,ff,ff,ff,ff,ff,ff,ff] rfl rfl (any_of HT_.out (by kernel_rfl)) (fun _ _ _ h => h) (Or.inl ⟨by rfl, ?_⟩) ?_ ?_
      rotate_left; exact slv; rotate_left; exact sla
      refine pure_ (i := 6) (N := some 82) (v := ?_) (a' := ?_) #[tt,tt,tt,ff,tt,tt,tt,ff,ff,ff,ff,ff,ff,ff,ff,ff,ff,ff] rfl rfl (any_of HT_.out (by kernel_rfl)) (fun _ _ _ h => h) (Or.inl ⟨by rfl, ?_⟩) ?_ ?_
      rotate_left; exact slv; rotate_left; exact sla
      refine pure_ (i := 7) (N := some 83) (v := ?_) (a' := ?_) #[tt,tt,tt,ff,tt,tt,tt,tt,ff,ff,ff,ff,ff,ff,ff,ff,ff,ff] rfl rfl (any_of HT_.out (by kernel_rfl)) (fun _ _ _ h => h) (Or.inl ⟨by rfl, ?_⟩) ?_ ?_
      rotate_left; exact slv; rotate_left; exact sla
      refine pure_ (i := 8) (N := some 84) (v := ?_) (a' := ?_) #[tt,tt,tt,ff,tt,tt,tt,tt,tt,ff,ff,ff,ff,ff,ff,ff,ff,ff] rfl rfl (any_of HT_.out (by kernel_rfl)) (fun _ _ _ h => h) (Or.inl ⟨by rfl, ?_⟩) ?_ ?_
      rotate_left; exact slv; rotate_left; exact sla
      refine take_ (i := 3) (N := some 79) (v := ?_) (a' := ?_) #[tt,tt,tt,tt,tt,tt,tt,tt,tt,ff,ff,ff,ff,ff,ff,ff,ff,ff] rfl rfl (take_ofW HT_.out HW_.out (by kernel_rfl)) (fun _ _ _ h => h) (Or.inl ⟨by rfl, ?_⟩) hHeld ?_ ?_
      rotate_left; exact slt2; rotate_left; exact sla
      refine take_ (i := 9) (N := some 85) (v := ?_) (a' := ?_) #[tt,tt,tt,tt,tt,tt,tt,tt,tt,tt,ff,ff,ff,ff,ff,ff,ff,ff] rfl rfl (take_ofW HT_.out HW_.out (by kernel_rfl)) (fun _ _ _ h => h) (Or.inl ⟨by rfl, ?_⟩) hHeld ?_ ?_
      rotate_left; exact slt2; rotate_left; exact sla
      refine one_ (i := 10) (N := some 86) #[tt,tt,tt,tt,tt,tt,tt,tt,tt,tt,tt,ff,ff,ff,ff,ff,ff,ff] rfl rfl (one_of HT_.out (by kernel_rfl)) (by decide) (fun K hK => ?_)
      refine goes_ Try.func14 (by kernel_rfl) rfl #[.pointer (some ⟨g, 0, none⟩), .int .i64 f, .int .i64 t] (by rfl) rfl rfl (by simp only [List.map_toArray, List.map_cons, List.map_nil]; rfl) ?_
      with_reducible refine (HWW.out _ HB7.out).mono ?_
      rintro e w8 ⟨gl, cl, l, c, rfl, hrl, hb8, hdc, hwl⟩
      refine ⟨_, rfl, ?_⟩
      have HB8 := Aside0.mk (below_step HB7.out hb8)
      have HRL := Aside0.mk hrl
      have HDC := Aside0.mk hdc
      have HWL := Aside0.mk hwl
      clear hb8 hrl hdc hwl
      refine hK.out _ _ ⟨(HQ.out _ HB8.out).1, (HQ.out _ HB8.out).2⟩ (fun hHeld => ?_)
      clear hK K
      refine norm_ (a' := ?_) ?_ ?_
      rotate_left
      · show Act.put _ (some 86) _ = _
        simp only [Act.put, List.setIfInBounds_toArray, List.set_cons_zero, List.set_cons_succ, i64_w, i32_w]
        rfl
      refine pure_ (i := 11) (N := some 75) (v := ?_) (a' := ?_) #[tt,tt,tt,tt,tt,tt,tt,tt,tt,tt,tt,tt,ff,ff,ff,ff,ff,ff] rfl rfl (any_of HT_.out (by kernel_rfl)) (fun _ _ _ h => h) (Or.inl ⟨by rfl, ?_⟩) ?_ ?_
      rotate_left; exact slv; rotate_left; exact sla
      refine pure_ (i := 12) (N := some 87) (v := ?_) (a' := ?_) #[tt,tt,tt,tt,tt,tt,tt,tt,tt,tt,tt,tt,tt,ff,ff,ff,ff,ff] rfl rfl (any_of HT_.out (by kernel_rfl)) (fun _ _ _ h => h) (Or.inl ⟨by rfl, ?_⟩) ?_ ?_
      rotate_left; exact slv; rotate_left; exact sla
      refine pure_ (i := 13) (N := some 88) (v := ?_) (a' := ?_) #[tt,tt,tt,tt,tt,tt,tt,tt,tt,tt,tt,tt,tt,tt,ff,ff,ff,ff] rfl rfl (any_of HT_.out (by kernel_rfl)) (fun _ _ _ h => h) (Or.inl ⟨by rfl, ?_⟩) ?_ ?_
      rotate_left; exact slv; rotate_left; exact sla
      refine pure_ (i := 14) (N := some 89) (v := ?_) (a' := ?_) #[tt,tt,tt,tt,tt,tt,tt,tt,tt,tt,tt,tt,tt,tt,tt,ff,ff,ff] rfl rfl (any_of HT_.out (by kernel_rfl)) (fun _ _ _ h => h) (Or.inl ⟨by rfl, ?_⟩) ?_ ?_
      rotate_left; exact slv; rotate_left; exact sla
      refine pure_ (i := 15) (N := some 13) (v := ?_) (a' := ?_) #[tt,tt,tt,tt,tt,tt,tt,tt,tt,tt,tt,tt,tt,tt,tt,tt,ff,ff] rfl rfl (any_of HT_.out (by kernel_rfl)) (fun _ _ _ h => h) (Or.inl ⟨by rfl, ?_⟩) ?_ ?_
      rotate_left; exact slv; rotate_left; exact sla
      refine pure_ (i := 16) (N := some 14) (v := ?_) (a' := ?_) #[tt,tt,tt,tt,tt,tt,tt,tt,tt,tt,tt,tt,tt,tt,tt,tt,tt,ff] rfl rfl (any_of HT_.out (by kernel_rfl)) (fun _ _ _ h => h) (Or.inl ⟨by rfl, ?_⟩) ?_ ?_
      rotate_left; exact slv; rotate_left; exact sla
      refine pure_ (i := 17) (N := some 15) (v := ?_) (a' := ?_) #[tt,tt,tt,tt,tt,tt,tt,tt,tt,tt,tt,tt,tt,tt,tt,tt,tt,tt] rfl rfl (any_of HT_.out (by kernel_rfl)) (fun _ _ _ h => h) (Or.inl ⟨by rfl, ?_⟩) ?_ ?_
      rotate_left; exact slv; rotate_left; exact sla
      refine done_ (done_of HT_.out (by kernel_rfl)) ?_
      try clear hHeld hwm
      have HB9 := Aside0.mk (below_step HB6.out HB8.out)
      obtain ⟨LL, hLL⟩ : ∃ LL, LL = l.length := ⟨_, rfl⟩
      have HLL := Aside0.mk hLL
      rw [← hLL]
      obtain ⟨zc, hzc⟩ : ∃ zc, zc = cv c f := ⟨_, rfl⟩
      have HZC : Aside0 (zc = cv c f ∧ zc ≤ sm) := ⟨hzc, by rw [hzc]; exact (HDC.out.least HNX.out HGO.out HF.out).2⟩
      rw [← hzc]
      clear hzc hLL
      have d2 : decide (sm < zc) = false := decide_eq_false (by have := HZC.out; omega)
      by_cases hs : zc < sm
      · have d3 : decide (zc < sm) = true := decide_eq_true hs
        clear hs
        go_wp2_with (first | fail | ((with_reducible refine gate_upon ?_); go_simp))
        go_ret
        exact ⟨rfl, HB9.out⟩
      as_aux_lemma =>
      have d3 : decide (zc < sm) = false := decide_eq_false hs
      have HFI := Aside0.mk (HWL.out.first HNX.out HDC.out HF.out HGO.out (by have := HZC.out; omega))
      clear hs
      go_wp2_with (first | fail | ((with_reducible refine gate_upon ?_); go_simp))
      have HAL : Aside0 (∀ (W : World) (k : Nat) (v : Int), Below w8.heap.size w8 W → l[k]? = some v → W.cell? ⟨gl, k, none⟩ = some (.int .i64 v)) := ⟨fun W k v hb hk => by
        have hkl : k < l.length := (List.getElem?_eq_some_iff.1 hk).1
        have h := row_nat (Kd.R_below HRL.out hb) k hkl
        have e : cv l (k : Int) = v := by unfold cv; rw [Int.toNat_natCast, List.getD_eq_getElem?_getD, hk]; rfl
        rwa [e] at h⟩
      go_loopg [4, 16] LL (fun kq v4 v16 w' => ∃ j : Nat, v4 = .bool false ∧ v16 = .int .i64 j ∧ Aside0 (j + kq = LL) ∧ Aside0 (∀ k, k < j → l[k]? = m[k]?) ∧ Aside0 (Below w8.heap.size w8 w'))
      case atStart => exact ⟨0, rfl, rfl, ⟨by omega⟩, ⟨fun k hk => absurd hk (Nat.not_lt_zero _)⟩, ⟨Below.refl _ _⟩⟩
      case round =>
       as_aux_lemma =>
        obtain ⟨j, rfl, rfl, HJ, HPR, HBL⟩ := hrel
        have HBF := Aside0.mk (below_step HB9.out HBL.out)
        cases gk with
        | zero =>
          have hj : LL = j := by have := HJ.out; omega
          subst hj
          have hgt : decide (LL < LL) = false := decide_eq_false (by omega)
          have hel : ((LL : Int) == (ML : Int)) = true := by
            rw [beq_iff_eq, HLL.out, HML.out.1, HFI.out.2 (fun k h1 h2 => HPR.out k (by rw [HLL.out]; exact h1))]
          go_wp2_with (first | fail | ((with_reducible refine gate_upon ?_); go_simp))
          go_ret
          exact ⟨rfl, HBF.out⟩
        | succ gk2 =>
          have hjl : j < LL := by have := HJ.out; omega
          have hjm : j < ML := by
            rcases Nat.lt_or_ge j ML with q | q
            · exact q
            · have h := HFI.out.2 (fun k h1 h2 => HPR.out k (by rw [← HML.out.1] at h2; omega))
              rw [← HLL.out, ← HML.out.1] at h
              omega
          have hlt : decide (j < LL) = true := decide_eq_true hjl
          have hlt2 : decide (j < ML) = true := decide_eq_true hjm
          have hltI : (j : Int) < LL := by omega
          have hltM : (j : Int) < ML := by omega
          have HJ1 : Aside0 (j + 1 + gk2 = LL) := ⟨by have := HJ.out; omega⟩
          have HWJ : Aside0 (wrap64 ((j : Int) + 1) = (j : Int) + 1) := ⟨by unfold wrap64; have := HML.out; have := HOL.out; have := HM1.out; omega⟩
          obtain ⟨a, ha⟩ : ∃ a, l[j]? = some a := ⟨_, List.getElem?_eq_getElem (by rw [← HLL.out]; exact hjl)⟩
          obtain ⟨b, hb⟩ : ∃ b, m[j]? = some b := ⟨_, List.getElem?_eq_getElem (by rw [← HML.out.1]; exact hjm)⟩
          have HQ2 : Aside0 (∀ W, Below wr.heap.size wr W → W.cell? ⟨gl, j, none⟩ = some (.int .i64 a) ∧ W.cell? ⟨gm, j, none⟩ = some (.int .i64 b)) := ⟨fun W h => ⟨HAL.out W j a (below_step HBL.out h) ha, HAM.out W j b (below_step HB8.out (below_step HBL.out h)) hb⟩⟩
          have HAB := Aside0.mk (And.intro ha hb)
          clear ha hb
          by_cases e : a = b
          · have d4 : (a != b) = false := by rw [bne_eq_false_iff_eq]; exact e
            have HE := Aside0.mk e
            clear e
            go_wp2_with (first | fail | ((with_reducible refine gate_upon ?_); go_simp))
            refine start_ (n := 9) (S := fun w' => w'.cell? ⟨gl, j, none⟩ = some (.int .i64 a) ∧ w'.cell? ⟨gm, j, none⟩ = some (.int .i64 b)) (ds := []) #[ff,ff,ff,ff,ff,ff,ff,ff,ff] (by kernel_rfl) rfl rfl ⟨(HQ2.out _ (Below.refl _ _)).1, (HQ2.out _ (Below.refl _ _)).2⟩ (fun hHeld => ?_)
            refine with_tabW least.tab27 least.bits27 (fun HT_ HW_ => ?_)
            have HB7 : Aside0 (Below wr.heap.size wr wr.drew) := ⟨below_drew1 (Below.refl _ _)⟩
            generalize wr.drew = w7 at HB7 hHeld ⊢
            refine pure_ (i := 0) (N := some 112) (v := ?_) (a' := ?_) #[tt,ff,ff,ff,ff,ff,ff,ff,ff] rfl rfl (any_of HT_.out (by kernel_rfl)) (fun _ _ _ h => h) (Or.inl ⟨by rfl, ?_⟩) ?_ ?_
            rotate_left; exact slv; rotate_left; exact sla
            refine pure_ (i := 1) (N := some 113) (v := ?_) (a' := ?_) #[tt,tt,ff,ff,ff,ff,ff,ff,ff] rfl rfl (any_of HT_.out (by kernel_rfl)) (fun _ _ _ h => h) (Or.inl ⟨by rfl, ?_⟩) ?_ ?_
            rotate_left; exact slv; rotate_left; exact sla
            refine pure_ (i := 2) (N := some 114) (v := ?_) (a' := ?_) #[tt,tt,tt,ff,ff,ff,ff,ff,ff] rfl rfl (any_of HT_.out (by kernel_rfl)) (fun _ _ _ h => h) (Or.inl ⟨by rfl, ?_⟩) ?_ ?_
            rotate_left; exact slv; rotate_left; exact sla
            refine pure_ (i := 4) (N := some 116) (v := ?_) (a' := ?_) #[tt,tt,tt,ff,tt,ff,ff,ff,ff] rfl rfl (any_of HT_.out (by kernel_rfl)) (fun _ _ _ h => h) (Or.inl ⟨by rfl, ?_⟩) ?_ ?_
            rotate_left; exact slv; rotate_left; exact sla
            refine pure_ (i := 5) (N := some 117) (v := ?_) (a' := ?_) #[tt,tt,tt,ff,tt,tt,ff,ff,ff] rfl rfl (any_of HT_.out (by kernel_rfl)) (fun _ _ _ h => h) (Or.inl ⟨by rfl, ?_⟩) ?_ ?_
            rotate_left; exact slv; rotate_left; exact sla
            refine pure_ (i := 6) (N := some 118) (v := ?_) (a' := ?_) #[tt,tt,tt,ff,tt,tt,tt,ff,ff] rfl rfl (any_of HT_.out (by kernel_rfl)) (fun _ _ _ h => h) (Or.inl ⟨by rfl, ?_⟩) ?_ ?_
            rotate_left; exact slv; rotate_left; exact sla
            refine take_ (i := 3) (N := some 115) (v := ?_) (a' := ?_) #[tt,tt,tt,tt,tt,tt,tt,ff,ff] rfl rfl (take_ofW HT_.out HW_.out (by kernel_rfl)) (fun _ _ _ h => h) (Or.inl ⟨by rfl, ?_⟩) hHeld ?_ ?_
            rotate_left; exact slt2; rotate_left; exact sla
            refine take_ (i := 7) (N := some 119) (v := ?_) (a' := ?_) #[tt,tt,tt,tt,tt,tt,tt,tt,ff] rfl rfl (take_ofW HT_.out HW_.out (by kernel_rfl)) (fun _ _ _ h => h) (Or.inl ⟨by rfl, ?_⟩) hHeld ?_ ?_
            rotate_left; exact slt2; rotate_left; exact sla
            refine pure_ (i := 8) (N := some 120) (v := ?_) (a' := ?_) #[tt,tt,tt,tt,tt,tt,tt,tt,tt] rfl rfl (any_of HT_.out (by kernel_rfl)) (fun _ _ _ h => h) (Or.inl ⟨by rfl, ?_⟩) ?_ ?_
            rotate_left; exact slv; rotate_left; exact sla
            refine done_ (done_of HT_.out (by kernel_rfl)) ?_
            try clear hHeld
            have hwj := HWJ.out
            go_wp2_with (first | fail | ((with_reducible refine gate_upon ?_); go_simp))
            go_roundg gk2
            case measure => first | exact Nat.lt_succ_self _ | omega
            case rel => exact ⟨j + 1, rfl, by first | rfl | (simp; done) | (rw [hwj]; done) | (rw [hwj]; rfl), HJ1, ⟨fun k hk => by
              rcases Nat.lt_or_ge k j with q | q
              · exact HPR.out k q
              · have e : k = j := by omega
                rw [e, HAB.out.1, HAB.out.2, HE.out]⟩, ⟨below_step HBL.out HB7.out⟩⟩
          · have d4 : (a != b) = true := by rw [bne_iff_ne]; exact e
            have d5 : decide (a < b) = true := decide_eq_true (by have := HFI.out.1 j HPR.out a b HAB.out.1 HAB.out.2; omega)
            clear e
            go_wp2_with (first | fail | ((with_reducible refine gate_upon ?_); go_simp))
            refine start_ (n := 9) (S := fun w' => w'.cell? ⟨gl, j, none⟩ = some (.int .i64 a) ∧ w'.cell? ⟨gm, j, none⟩ = some (.int .i64 b)) (ds := []) #[ff,ff,ff,ff,ff,ff,ff,ff,ff] (by kernel_rfl) rfl rfl ⟨(HQ2.out _ (Below.refl _ _)).1, (HQ2.out _ (Below.refl _ _)).2⟩ (fun hHeld => ?_)
            refine with_tabW least.tab27 least.bits27 (fun HT_ HW_ => ?_)
            have HB7 : Aside0 (Below wr.heap.size wr wr.drew) := ⟨below_drew1 (Below.refl _ _)⟩
            generalize wr.drew = w7 at HB7 hHeld ⊢
            refine pure_ (i := 0) (N := some 112) (v := ?_) (a' := ?_) #[tt,ff,ff,ff,ff,ff,ff,ff,ff] rfl rfl (any_of HT_.out (by kernel_rfl)) (fun _ _ _ h => h) (Or.inl ⟨by rfl, ?_⟩) ?_ ?_
            rotate_left; exact slv; rotate_left; exact sla
            refine pure_ (i := 1) (N := some 113) (v := ?_) (a' := ?_) #[tt,tt,ff,ff,ff,ff,ff,ff,ff] rfl rfl (any_of HT_.out (by kernel_rfl)) (fun _ _ _ h => h) (Or.inl ⟨by rfl, ?_⟩) ?_ ?_
            rotate_left; exact slv; rotate_left; exact sla
            refine pure_ (i := 2) (N := some 114) (v := ?_) (a' := ?_) #[tt,tt,tt,ff,ff,ff,ff,ff,ff] rfl rfl (any_of HT_.out (by kernel_rfl)) (fun _ _ _ h => h) (Or.inl ⟨by rfl, ?_⟩) ?_ ?_
            rotate_left; exact slv; rotate_left; exact sla
            refine pure_ (i := 4) (N := some 116) (v := ?_) (a' := ?_) #[tt,tt,tt,ff,tt,ff,ff,ff,ff] rfl rfl (any_of HT_.out (by kernel_rfl)) (fun _ _ _ h => h) (Or.inl ⟨by rfl, ?_⟩) ?_ ?_
            rotate_left; exact slv; rotate_left; exact sla
            refine pure_ (i := 5) (N := some 117) (v := ?_) (a' := ?_) #[tt,tt,tt,ff,tt,tt,ff,ff,ff] rfl rfl (any_of HT_.out (by kernel_rfl)) (fun _ _ _ h => h) (Or.inl ⟨by rfl, ?_⟩) ?_ ?_
            rotate_left; exact slv; rotate_left; exact sla
            refine pure_ (i := 6) (N := some 118) (v := ?_) (a' := ?_) #[tt,tt,tt,ff,tt,tt,tt,ff,ff] rfl rfl (any_of HT_.out (by kernel_rfl)) (fun _ _ _ h => h) (Or.inl ⟨by rfl, ?_⟩) ?_ ?_
            rotate_left; exact slv; rotate_left; exact sla
            refine take_ (i := 3) (N := some 115) (v := ?_) (a' := ?_) #[tt,tt,tt,tt,tt,tt,tt,ff,ff] rfl rfl (take_ofW HT_.out HW_.out (by kernel_rfl)) (fun _ _ _ h => h) (Or.inl ⟨by rfl, ?_⟩) hHeld ?_ ?_
            rotate_left; exact slt2; rotate_left; exact sla
            refine take_ (i := 7) (N := some 119) (v := ?_) (a' := ?_) #[tt,tt,tt,tt,tt,tt,tt,tt,ff] rfl rfl (take_ofW HT_.out HW_.out (by kernel_rfl)) (fun _ _ _ h => h) (Or.inl ⟨by rfl, ?_⟩) hHeld ?_ ?_
            rotate_left; exact slt2; rotate_left; exact sla
            refine pure_ (i := 8) (N := some 120) (v := ?_) (a' := ?_) #[tt,tt,tt,tt,tt,tt,tt,tt,tt] rfl rfl (any_of HT_.out (by kernel_rfl)) (fun _ _ _ h => h) (Or.inl ⟨by rfl, ?_⟩) ?_ ?_
            rotate_left; exact slv; rotate_left; exact sla
            refine done_ (done_of HT_.out (by kernel_rfl)) ?_
            try clear hHeld
            go_wp2_with (first | fail | ((with_reducible refine gate_upon ?_); go_simp))
            refine start_ (n := 10) (S := fun w' => w'.cell? ⟨gl, j, none⟩ = some (.int .i64 a) ∧ w'.cell? ⟨gm, j, none⟩ = some (.int .i64 b)) (ds := []) #[ff,ff,ff,ff,ff,ff,ff,ff,ff,ff] (by kernel_rfl) rfl rfl ⟨(HQ2.out _ HB7.out).1, (HQ2.out _ HB7.out).2⟩ (fun hHeld => ?_)
            refine with_tabW least.tab28 least.bits28 (fun HT_ HW_ => ?_)
            have HBG : Aside0 (Below wr.heap.size wr w7.drew) := ⟨below_drew HB7.out⟩
            generalize w7.drew = w9 at HBG hHeld ⊢
            refine pure_ (i := 0) (N := some 121) (v := ?_) (a' := ?_) #[tt,ff,ff,ff,ff,ff,ff,ff,ff,ff] rfl rfl (any_of HT_.out (by kernel_rfl)) (fun _ _ _ h => h) (Or.inl ⟨by rfl, ?_⟩) ?_ ?_
            rotate_left; exact slv; rotate_left; exact sla
            refine pure_ (i := 1) (N := some 122) (v := ?_) (a' := ?_) #[tt,tt,ff,ff,ff,ff,ff,ff,ff,ff] rfl rfl (any_of HT_.out (by kernel_rfl)) (fun _ _ _ h => h) (Or.inl ⟨by rfl, ?_⟩) ?_ ?_
            rotate_left; exact slv; rotate_left; exact sla
            refine pure_ (i := 2) (N := some 123) (v := ?_) (a' := ?_) #[tt,tt,tt,ff,ff,ff,ff,ff,ff,ff] rfl rfl (any_of HT_.out (by kernel_rfl)) (fun _ _ _ h => h) (Or.inl ⟨by rfl, ?_⟩) ?_ ?_
            rotate_left; exact slv; rotate_left; exact sla
            refine pure_ (i := 4) (N := some 125) (v := ?_) (a' := ?_) #[tt,tt,tt,ff,tt,ff,ff,ff,ff,ff] rfl rfl (any_of HT_.out (by kernel_rfl)) (fun _ _ _ h => h) (Or.inl ⟨by rfl, ?_⟩) ?_ ?_
            rotate_left; exact slv; rotate_left; exact sla
            refine pure_ (i := 5) (N := some 126) (v := ?_) (a' := ?_) #[tt,tt,tt,ff,tt,tt,ff,ff,ff,ff] rfl rfl (any_of HT_.out (by kernel_rfl)) (fun _ _ _ h => h) (Or.inl ⟨by rfl, ?_⟩) ?_ ?_
            rotate_left; exact slv; rotate_left; exact sla
            refine pure_ (i := 6) (N := some 127) (v := ?_) (a' := ?_) #[tt,tt,tt,ff,tt,tt,tt,ff,ff,ff] rfl rfl (any_of HT_.out (by kernel_rfl)) (fun _ _ _ h => h) (Or.inl ⟨by rfl, ?_⟩) ?_ ?_
            rotate_left; exact slv; rotate_left; exact sla
            refine take_ (i := 3) (N := some 124) (v := ?_) (a' := ?_) #[tt,tt,tt,tt,tt,tt,tt,ff,ff,ff] rfl rfl (take_ofW HT_.out HW_.out (by kernel_rfl)) (fun _ _ _ h => h) (Or.inl ⟨by rfl, ?_⟩) hHeld ?_ ?_
            rotate_left; exact slt2; rotate_left; exact sla
            refine take_ (i := 7) (N := some 128) (v := ?_) (a' := ?_) #[tt,tt,tt,tt,tt,tt,tt,tt,ff,ff] rfl rfl (take_ofW HT_.out HW_.out (by kernel_rfl)) (fun _ _ _ h => h) (Or.inl ⟨by rfl, ?_⟩) hHeld ?_ ?_
            rotate_left; exact slt2; rotate_left; exact sla
            refine pure_ (i := 8) (N := some 129) (v := ?_) (a' := ?_) #[tt,tt,tt,tt,tt,tt,tt,tt,tt,ff] rfl rfl (any_of HT_.out (by kernel_rfl)) (fun _ _ _ h => h) (Or.inl ⟨by rfl, ?_⟩) ?_ ?_
            rotate_left; exact slv; rotate_left; exact sla
            refine pure_ (i := 9) (N := some 4) (v := ?_) (a' := ?_) #[tt,tt,tt,tt,tt,tt,tt,tt,tt,tt] rfl rfl (any_of HT_.out (by kernel_rfl)) (fun _ _ _ h => h) (Or.inl ⟨by rfl, ?_⟩) ?_ ?_
            rotate_left; exact slv; rotate_left; exact sla
            refine done_ (done_of HT_.out (by kernel_rfl)) ?_
            try clear hHeld
            go_wp2_with (first | fail | ((with_reducible refine gate_upon ?_); go_simp))
            go_ret
            exact ⟨rfl, below_step HBF.out HBG.out⟩
    | succ gk2 =>
     as_aux_lemma =>
      have hio : i < OL := by have := HI.out; omega
      have hlt : decide (i < OL) = true := decide_eq_true hio
      have hltI : (i : Int) < OL := by omega
      have HI1 : Aside0 (i + 1 + gk2 = OL) := ⟨by have := HI.out; omega⟩
      have HWI1 : Aside0 (wrap64 ((i : Int) + 1) = (i : Int) + 1) := ⟨by unfold wrap64; have := HI.out; have := HOL.out; omega⟩
      obtain ⟨ao, hao, hco⟩ := int_at (l := ol) (j := i) HO.out (by have := HOL.out; omega) rfl
      obtain ⟨z, hz⟩ : ∃ z, z = ol[i]'(by have := HOL.out; omega) := ⟨_, rfl⟩
      rw [← hz] at hco
      have HQ : Aside0 (∀ W, Below wr.heap.size wr W → W.cell? (ao.add i) = some (.int .i64 z)) := ⟨fun W h => hco W (below_step HB3.out (below_step HBW.out h))⟩
      have HNW : Aside0 (∀ W, Below wr.heap.size wr W → Calls Try.prog 12 #[.pointer (some ⟨g, 0, none⟩)] W fun e w' => e = .returned (.int .i64 (n : Nat)) ∧ Below W.heap.size W w') := ⟨fun W h => by
        have := (HN.out.below h).nodes
        rw [HLN.out] at this
        exact this.mono (fun e w' q => ⟨q.1, by rw [q.2]; exact Below.refl _ _⟩)⟩
      have HMI := Aside0.mk (mod_ge (i := z) hnp)
      obtain ⟨ri, hri⟩ : ∃ ri, ri = Int.tmod z (n : Int) := ⟨_, rfl⟩
      rw [← hri] at HMI
      have hri' := hri.symm
      subst hao
      clear hz hco hri
      go_wp2_with (first | fail | ((with_reducible refine gate_upon ?_); go_simp))
      refine start_ (n := 8) (S := fun w' => w'.cell? (ao.add i) = some (.int .i64 z)) (ds := []) #[ff,ff,ff,ff,ff,ff,ff,ff] (by kernel_rfl) rfl rfl (HQ.out wr (Below.refl _ _)) (fun hHeld => ?_)
      refine with_tabW least.tab11 least.bits11 (fun HT_ HW_ => ?_)
      have HB7 : Aside0 (Below wr.heap.size wr wr.drew) := ⟨below_drew1 (Below.refl _ _)⟩
      generalize wr.drew = w7 at HB7 hHeld ⊢
      refine pure_ (i := 0) (N := some 43) (v := ?_) (a' := ?_) #[tt,ff,ff,ff,ff,ff,ff,ff] rfl rfl (any_of HT_.out (by kernel_rfl)) (fun _ _ _ h => h) (Or.inl ⟨by rfl, ?_⟩) ?_ ?_
      rotate_left; exact slv; rotate_left; exact sla
      refine pure_ (i := 1) (N := some 44) (v := ?_) (a' := ?_) #[tt,tt,ff,ff,ff,ff,ff,ff] rfl rfl (any_of HT_.out (by kernel_rfl)) (fun _ _ _ h => h) (Or.inl ⟨by rfl, ?_⟩) ?_ ?_
      rotate_left; exact slv; rotate_left; exact sla
      refine pure_ (i := 2) (N := some 45) (v := ?_) (a' := ?_) #[tt,tt,tt,ff,ff,ff,ff,ff] rfl rfl (any_of HT_.out (by kernel_rfl)) (fun _ _ _ h => h) (Or.inl ⟨by rfl, ?_⟩) ?_ ?_
      rotate_left; exact slv; rotate_left; exact sla
      refine pure_ (i := 4) (N := some 47) (v := ?_) (a' := ?_) #[tt,tt,tt,ff,tt,ff,ff,ff] rfl rfl (any_of HT_.out (by kernel_rfl)) (fun _ _ _ h => h) (Or.inl ⟨by rfl, ?_⟩) ?_ ?_
      rotate_left; exact slv; rotate_left; exact sla
      refine take_ (i := 3) (N := some 46) (v := ?_) (a' := ?_) #[tt,tt,tt,tt,tt,ff,ff,ff] rfl rfl (take_ofW HT_.out HW_.out (by kernel_rfl)) (fun _ _ _ h => h) (Or.inl ⟨by rfl, ?_⟩) hHeld ?_ ?_
      rotate_left
      · intro w' s0
        go_simp
        with_reducible rfl
      rotate_left
      · exact sla
      refine one_ (i := 5) (N := some 48) #[tt,tt,tt,tt,tt,tt,ff,ff] rfl rfl (one_of HT_.out (by kernel_rfl)) (by decide) (fun K hK => ?_)
      refine goes_ Try.func12 (by kernel_rfl) rfl #[.pointer (some ⟨g, 0, none⟩)] (by rfl) rfl rfl (by simp only [List.map_toArray, List.map_cons, List.map_nil]; rfl) ?_
      with_reducible refine (HNW.out _ HB7.out).mono ?_
      rintro e w8 ⟨rfl, hb8⟩
      refine ⟨_, rfl, ?_⟩
      have HB8 := Aside0.mk (below_step HB7.out hb8)
      clear hb8
      refine hK.out _ _ (HQ.out _ HB8.out) (fun hHeld => ?_)
      clear hK K
      refine norm_ (a' := ?_) ?_ ?_
      rotate_left
      · show Act.put _ (some 48) _ = _
        simp only [Act.put, List.setIfInBounds_toArray, List.set_cons_zero, List.set_cons_succ, i64_w, i32_w]
        rfl
      refine pure_ (i := 6) (N := some 49) (v := ?_) (a' := ?_) #[tt,tt,tt,tt,tt,tt,tt,ff] rfl rfl (any_of HT_.out (by kernel_rfl)) (fun _ _ _ h => h) (Or.inl ⟨by rfl, ?_⟩) ?_ ?_
      rotate_left; exact slv; rotate_left; exact sla
      refine pure_ (i := 7) (N := some 11) (v := ?_) (a' := ?_) #[tt,tt,tt,tt,tt,tt,tt,tt] rfl rfl (any_of HT_.out (by kernel_rfl)) (fun _ _ _ h => h) (Or.inl ⟨by rfl, ?_⟩) ?_ ?_
      rotate_left; exact slv; rotate_left; exact sla
      refine done_ (done_of HT_.out (by kernel_rfl)) ?_
      try clear hHeld
      have HN8 := Aside0.mk (HN.out.below HB8.out)
      have HRM8 := Aside0.mk (Kd.R_below HRM.out HB8.out)
      have HBW8 := Aside0.mk (below_step HBW.out HB8.out)
      clear hri' HN HRM HBW HNW HQ
      go_upto_if 51 with (first | fail | ((with_reducible refine gate_upon ?_); go_simp))
      go_cut [11, 52, 53] (fun v11 v52 v53 wc => ∃ a : Nat, v11 = .int .i64 a ∧ Aside0 (a < n) ∧ Aside0 (wc = w8))
      case first =>
        by_cases h0 : ri < 0
        · have dn : decide (ri < 0) = true := decide_eq_true h0
          obtain ⟨a, ha⟩ : ∃ a : Nat, (a : Int) = -ri := ⟨(-ri).toNat, by omega⟩
          have HA : Aside0 (a < n) := ⟨by have := HMI.out; omega⟩
          clear h0
          have ha' := ha.symm
          clear ha
          (first | rw [dn] | skip)
          go_wp2
          go_meet
          case rel => exact ⟨a, by first | rfl | (rw [wrap_nat HA.out (by have := HN4.out; omega)]), HA, ⟨rfl⟩⟩
        · have dn : decide (ri < 0) = false := decide_eq_false h0
          obtain ⟨a, rfl⟩ : ∃ a : Nat, ri = (a : Int) := ⟨ri.toNat, by omega⟩
          have HA : Aside0 (a < n) := ⟨by have := HMI.out; omega⟩
          clear h0
          (first | rw [dn] | skip)
          go_wp2
          go_meet
          case rel => exact ⟨a, rfl, HA, ⟨rfl⟩⟩
      case rest =>
      as_aux_lemma =>
      obtain ⟨a, rfl, HA, HWC⟩ := hcut
      have hwc := HWC.out.symm
      subst hwc
      clear HWC HMI
      by_cases hml : ML = 0
      · subst hml
        have dg : decide ((0 : Int) < ((0 : Nat) : Int)) = false := by decide
        have HM0 : Aside0 (m = [] ∧ sm = 0) := ⟨by
          have h := HML.out.1
          have e : m = [] := List.eq_nil_of_length_eq_zero h.symm
          rcases HWI.out with ⟨_, q, _⟩ | ⟨f, t, q, _⟩
          · exact ⟨e, q⟩
          · obtain ⟨r, hr⟩ := q.ne
            rw [e] at hr; cases hr⟩
        go_wp2_with (first | ((with_reducible refine gate_dst (N := 74) rfl ?_); refine Kd.R_append kInt (w0 := w3) w3.heap.size rfl (.tmp 71) (.tmp 73) 32 3 (.int .i64 0) 8 rfl Try.underlying32 infoInt rfl (by decide) (by omega) (.slice mA 0 mc) m (a : Int) [.int .i64 (a : Int)] (fun _ => True) (fun _ => False) rfl rfl rfl (fun _ hk => hk.elim) (fun _ _ => trivial) HRM8.out HBW8.out HBW8.out.size (by have := HML.out; have := HOL.out; have := HI.out; omega) ?_; intro v9 wA ho hb9 hg9 hat; have HRM9 := Aside0.mk ho; have HBW9 := Aside0.mk hb9; have HN9 := Aside0.mk (row_far HN8.out HN0.out HRM8.out hg9); clear ho hb9 hg9 hat HRM8 HN8 HBW8) | ((with_reducible refine gate_upon ?_); go_simp))
        obtain ⟨A9, c9, e9⟩ := Kd.R_slice HRM9.out
        rw [List.length_append, List.length_singleton, ← HML.out.1] at e9
        have hwi := HWI1.out
        subst e9
        go_wp2_with (first | fail | ((with_reducible refine gate_upon ?_); go_simp))
        go_roundg gk2
        case measure => first | exact Nat.lt_succ_self _ | omega
        case rel => exact ⟨i + 1, 0 + 1, c9, A9, m ++ [(a : Int)], sm, rfl, rfl, by first | rfl | (simp; done) | (rw [hwi]; done) | (rw [hwi]; rfl), HI1, ⟨by rw [List.length_append, List.length_singleton, ← HML.out.1], by omega⟩, ⟨Or.inr ⟨a, a, by rw [HM0.out.1, HM0.out.2]; exact .stop, ⟨by omega, by have := HA.out; omega⟩, by omega, by have := HA.out; omega⟩⟩, HRM9, HN9, HBW9⟩
      · as_aux_lemma =>
        obtain ⟨f, t, HGO, HF, HT⟩ : ∃ f t : Int, Aside0 (Goes (outOf out) t f m sm) ∧ Aside0 (0 ≤ f ∧ f < n) ∧ Aside0 (0 ≤ t ∧ t < n) := by
          rcases HWI.out with ⟨q, _, _⟩ | ⟨f, t, q1, q2, q3⟩
          · rw [q] at HML; exact absurd HML.out.1 hml
          · exact ⟨f, t, ⟨q1⟩, ⟨q2⟩, ⟨q3⟩⟩
        obtain ⟨gm, mc', he, _⟩ := Kd.R_form HRM8.out (by have := HML.out; omega)
        simp only [Value.slice.injEq] at he
        obtain ⟨rfl, -, rfl⟩ := he
        obtain ⟨M1, hM1⟩ : ∃ M1, M1 + 1 = ML := ⟨ML - 1, by omega⟩
        have HM1 := Aside0.mk hM1
        have qt : w8.cell? ⟨gm, M1, none⟩ = some (.int .i64 t) := by
          have h := row_nat HRM8.out M1 (by omega)
          have h2 := HGO.out.last.2
          rw [← HML.out.1, ← hM1, Nat.add_sub_cancel] at h2
          have e : cv m (M1 : Int) = t := by unfold cv; rw [Int.toNat_natCast, List.getD_eq_getElem?_getD, h2]; rfl
          rwa [e] at h
        have hM1L : (M1 : Int) < ML := by omega
        have dg : decide ((0 : Int) < (ML : Int)) = true := decide_eq_true (by omega)
        have dg2 : decide (0 < ML) = true := decide_eq_true (by omega)
        have HWM : Aside0 (wrap64 ((ML : Int) - 1) = (M1 : Int)) := ⟨by unfold wrap64; have := HM1.out; have := HML.out; have := HOL.out; omega⟩
        obtain ⟨xc, hxc⟩ : ∃ xc, xc = costL (outOf out t) (a : Int) := ⟨_, rfl⟩
        have HXC := Aside0.mk hxc
        have HCO := Aside0.mk (cost_calls HN8.out (Nat.le_trans HB3.out.size HBW8.out.size) t (a : Int))
        rw [← hxc] at HCO
        clear hM1 hxc hml
        have hwm := HWM.out
        go_wp2_with (first | fail | ((with_reducible refine gate_upon ?_); go_simp))
        refine HCO.out.mono ?_
        rintro e w9 ⟨rfl, hb9⟩
        have HNA := Aside0.mk (HN8.out.below hb9)
        have HRMA := Aside0.mk (Kd.R_below HRM8.out hb9)
        have HBWA := Aside0.mk (below_step HBW8.out hb9)
        clear hb9 hwm qt HN8 HRM8 HBW8 HCO
        by_cases hx : xc < 0
        · have dx : decide (xc < 0) = true := decide_eq_true hx
          clear hx
          have hwi := HWI1.out
          go_wp2_with (first | fail | ((with_reducible refine gate_upon ?_); go_simp))
          go_roundg gk2
          case measure => first | exact Nat.lt_succ_self _ | omega
          case rel => exact ⟨i + 1, ML, mc, some ⟨gm, 0, none⟩, m, sm, rfl, rfl, by first | rfl | (simp; done) | (rw [hwi]; done) | (rw [hwi]; rfl), HI1, ⟨HML.out.1, Nat.le_succ_of_le HML.out.2⟩, ⟨Or.inr ⟨f, t, HGO.out, HF.out, HT.out⟩⟩, HRMA, HNA, HBWA⟩
        · as_aux_lemma =>
          have dx : decide (xc < 0) = false := decide_eq_false hx
          have HGO2 : Aside0 (Goes (outOf out) (a : Int) f (m ++ [(a : Int)]) (sm + xc)) := ⟨by
            obtain ⟨x, hx1, hx2, hx3⟩ := costL_mem (l := outOf out t) (tv := (a : Int)) (by rw [← HXC.out]; omega)
            have h := HGO.out.snoc hx1
            rw [hx2, hx3, ← HXC.out] at h
            exact h⟩
          have HWS : Aside0 (wrap64 (sm + xc) = sm + xc) := ⟨by
            have h1 := HGO2.out.most HNX.out HF.out
            have h2 := HGO2.out.ge HNX.out HF.out
            rw [List.length_append, List.length_singleton, ← HML.out.1] at h1
            unfold wrap64
            have := HML.out; have := HOL.out; have := HI.out
            omega⟩
          clear hx
          have hws := HWS.out
          go_wp2_with (first | ((with_reducible refine gate_dst (N := 74) rfl ?_); refine Kd.R_append kInt (w0 := w3) w3.heap.size rfl (.tmp 71) (.tmp 73) 32 3 (.int .i64 0) 8 rfl Try.underlying32 infoInt rfl (by decide) (by omega) (.slice (some ⟨gm, 0, none⟩) ML mc) m (a : Int) [.int .i64 (a : Int)] (fun _ => True) (fun _ => False) rfl rfl rfl (fun _ hk => hk.elim) (fun _ _ => trivial) HRMA.out HBWA.out HBWA.out.size (by have := HML.out; have := HOL.out; have := HI.out; omega) ?_; intro v9 wA ho hb9 hg9 hat; have HRM9 := Aside0.mk ho; have HBW9 := Aside0.mk hb9; have HN9 := Aside0.mk (row_far HNA.out HN0.out HRMA.out hg9); clear ho hb9 hg9 hat HRMA HNA HBWA) | ((with_reducible refine gate_upon ?_); go_simp))
          obtain ⟨A9, c9, e9⟩ := Kd.R_slice HRM9.out
          rw [List.length_append, List.length_singleton, ← HML.out.1] at e9
          have hwi := HWI1.out
          subst e9
          go_wp2_with (first | fail | ((with_reducible refine gate_upon ?_); go_simp))
          go_roundg gk2
          case measure => first | exact Nat.lt_succ_self _ | omega
          case rel => exact ⟨i + 1, ML + 1, c9, A9, m ++ [(a : Int)], sm + xc, rfl, by first | rfl | (simp; done) | (rw [hws]; done) | (rw [hws]; rfl), by first | rfl | (simp; done) | (rw [hwi]; done) | (rw [hwi]; rfl), HI1, ⟨by rw [List.length_append, List.length_singleton, ← HML.out.1], Nat.succ_le_succ HML.out.2⟩, ⟨Or.inr ⟨f, a, HGO2.out, HF.out, ⟨by omega, by have := HA.out; omega⟩⟩⟩, HRM9, HN9, HBW9⟩
end Go.Proofs.Ytgbfhhmmkhjhhaa.Paths
