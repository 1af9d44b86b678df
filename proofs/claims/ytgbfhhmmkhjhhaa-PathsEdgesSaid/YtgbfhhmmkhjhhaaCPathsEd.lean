/- Paths: the walk of PathsEdges. Conditions: those that stand in each theorem. Written by wip/gen/netlaws.py. -/
import Derived.Test.YtgbfhhmmkhjhhaaCPathsD
import Derived.Test.YtgbfhhmmkhjhhaaCPathsQX
import Derived.Test.YtgbfhhmmkhjhhaaCSl
namespace Go.Proofs.Ytgbfhhmmkhjhhaa.Paths
open Go.RowKit Go.Proofs.YtgbfhhmmkhjhhaaW.PrintWords Go.Proofs.YtgbfhhmmkhjhhaaW.PrintLast Go.Proofs.YtgbfhhmmkhjhhaaW.PrintMore Go.Proofs.Ytgbfhhmmkhjhhaa.HeapW Go.Proofs.Ytgbfhhmmkhjhhaa.HeapP Go.Proofs.Ytgbfhhmmkhjhhaa.MapAt Go.Proofs.Ytgbfhhmmkhjhhaa.Dij
open Go.Proofs.Ytgbfhhmmkhjhhaa.HeapIR hiding It Pt kIt_K infoZ reps_single
open Go.Proofs.Ytgbfhhmmkhjhhaa.Roads (NetS outOf isN isN_iff isN_no nodeP roadP okP kPt kRd flat_keep Flat flatPt flatRd rd_at infoPtz infoRd kPt_mk reps_single kPt_K kRd_K)
set_option linter.unusedVariables false
set_option linter.unusedSimpArgs false
def edges.T19 : Bool × List (List Nat × List Nat) := (true, [([], []), ([0], [0]), ([1], [1]), ([2], [2]), ([3], [3]), ([4, 3], [3, 4]), ([3], [3]), ([6, 3], [3, 6]), ([5, 7, 3], [3, 5, 7]), ([3, 8], [3, 8]), ([9, 3], [9]), ([10], [10]), ([10], [10]), ([11, 12, 10], [10, 11, 12]), ([13, 10], [10, 13]), ([14, 10], [10, 14]), ([15, 10, 10], [10, 15]), ([16], [16]), ([16], [16]), ([18, 16], [16, 18]), ([17, 19, 16], [16, 17, 19]), ([20, 16], [16, 20]), ([21, 16], [16, 21]), ([22, 16, 16], [16, 22]), ([23], [23]), ([23], [23]), ([25, 23], [23, 25]), ([24, 26, 23], [23, 24, 26]), ([27, 23], [23, 27]), ([23], [23]), ([23], [23]), ([29, 30, 23], [23, 29, 30]), ([31, 23], [23, 31]), ([23], [23]), ([33, 23], [23, 33]), ([32, 34, 23], [23, 32, 34]), ([28, 35, 23], [23, 28, 35]), ([23, 36, 16], [16, 23, 36]), ([16, 37, 10], [10, 16, 37]), ([10, 38], [10, 38])])
def edges.B19 : List Nat := [0, 1, 3, 7, 15, 31, 15, 79, 255, 511, 1023, 2047, 2047, 8191, 16383, 32767, 65535, 131071, 131071, 393215, 1048575, 2097151, 4194303, 8388607, 16777215, 16777215, 50331647, 134217727, 268435455, 16777215, 16777215, 1627389951, 3774873599, 16777215, 8606711807, 33839644671, 68719476735, 137438953471, 274877906943, 549755813887]
theorem edges.tab19 : rtab .any (opsOf Try.f3 19) = edges.T19 := by kernel_rfl
theorem edges.bits19 : waitsOk edges.T19.2 edges.B19 = true := by kernel_rfl
def edges.T21 : Bool × List (List Nat × List Nat) := (true, [([], []), ([], []), ([1], [1]), ([], []), ([], []), ([4], [4]), ([3, 5], [3, 5]), ([6], [6]), ([7], [7]), ([8], [8]), ([8], [8]), ([9, 10, 8], [8, 9, 10]), ([11, 8], [8, 11]), ([12, 8], [8, 12]), ([13, 8, 8], [8, 13]), ([14], [14]), ([14], [14]), ([16, 14], [14, 16]), ([15, 17, 14], [14, 15, 17]), ([18, 14], [14, 18]), ([14], [14]), ([14], [14]), ([20, 21, 14], [14, 20, 21]), ([22, 14], [14, 22]), ([14], [14]), ([24, 14], [14, 24]), ([23, 25, 14], [14, 23, 25]), ([19, 26, 14], [14, 19, 26]), ([14, 27, 8], [8, 14, 27]), ([8, 28], [8, 28]), ([0, 2, 0, 1, 2, 3, 4, 5, 6, 7, 8, 9, 10, 11, 12, 13, 14, 15, 16, 17, 18, 19, 20, 21, 22, 23, 24, 25, 26, 27, 28, 29], [0, 2]), ([30, 29, 14, 0, 1, 2, 3, 4, 5, 6, 7, 8, 9, 10, 11, 12, 13, 14, 15, 16, 17, 18, 19, 20, 21, 22, 23, 24, 25, 26, 27, 28, 29], [29, 30])])
def edges.B21 : List Nat := [0, 0, 2, 0, 0, 16, 56, 120, 248, 504, 504, 2040, 4088, 8184, 16376, 32760, 32760, 98296, 262136, 524280, 32760, 32760, 3178488, 7372792, 32760, 16809976, 66093048, 134217720, 268435448, 536870904, 1073741823, 2147483647]
theorem edges.tab21 : rtab .any (opsOf Try.f3 21) = edges.T21 := by kernel_rfl
theorem edges.bits21 : waitsOk edges.T21.2 edges.B21 = true := by kernel_rfl
def edges.T25 : Bool × List (List Nat × List Nat) := (true, [([], []), ([], []), ([0, 1], [0, 1]), ([2], [2]), ([3], [3]), ([4], [4]), ([5], [5]), ([5], [5]), ([6, 7, 5], [5, 6, 7]), ([8, 5], [5, 8]), ([9, 5], [5, 9]), ([5], [5]), ([5], [5]), ([11, 12, 5], [5, 11, 12]), ([13, 5], [5, 13]), ([10, 14, 5], [5, 10, 14]), ([5, 15], [5, 15])])
def edges.B25 : List Nat := [0, 0, 3, 7, 15, 31, 63, 63, 255, 511, 1023, 63, 63, 6207, 14399, 32767, 65535]
theorem edges.tab25 : rtab .any (opsOf Try.f3 25) = edges.T25 := by kernel_rfl
theorem edges.bits25 : waitsOk edges.T25.2 edges.B25 = true := by kernel_rfl
theorem infoB : (Try.prog.info? 4).map (fun i => (i.zero, i.size, i.bytes)) = some (some (.bool false), 1, 1) := by kernel_rfl
theorem came_at {W : World} {base gc n cap : Nat} {b : List Bool} (h : Kd.bool.R 4 W base (fun _ => True) (.slice (some ⟨gc, 0, none⟩) n cap) b) (v : Int) (h0 : 0 ≤ v) (h1 : v < n) : W.cell? ⟨gc, v.toNat, none⟩ = some (.bool (b.getD v.toNat false)) ∧ W.frozen? ⟨gc, v.toNat, none⟩ = false :=
  Kd.R_celln (n := n) false h v h0 h1
theorem came_put {W : World} {base gc n cap : Nat} {b : List Bool} (h : Kd.bool.R 4 W base (fun _ => True) (.slice (some ⟨gc, 0, none⟩) n cap) b) (v : Int) (x : Bool) : Kd.bool.R 4 (W.setCell ⟨gc, v.toNat, none⟩ (.bool x)) base (fun _ => True) (.slice (some ⟨gc, 0, none⟩) n cap) (b.set v.toNat x) :=
  Kd.R_putn h v x
set_option maxHeartbeats 16000000 in
set_option maxRecDepth 100000 in
theorem edges_walk (PA RA : Option Addr) (pc rc : Nat) (pl : List Roads.Pt) (rl : List Rd) (s : Int) (w : World) (hP : Kd.C kPt w PA pl.length pl) (hR : Kd.C kRd w RA rl.length rl) (hp : ∀ p ∈ pl, okP p) (hpl : pl.length ≤ 100000000000000) (hrl : rl.length ≤ 5864062014634) :
    Calls Try.prog 3 #[.agg #[.slice PA pl.length pc, .slice RA rl.length rc], .int .i64 s] w fun e w' => e = .returned (.bool true) ∧ Below w.heap.size w w' := by
  have qe := eql_ptr
  obtain ⟨pn, hpn⟩ : ∃ pn, pn = pl.length := ⟨_, rfl⟩
  obtain ⟨rn, hrn⟩ : ∃ rn, rn = rl.length := ⟨_, rfl⟩
  have HB0 : Aside0 (Below w.heap.size w (w.alloc (.cells #[.slice PA pn pc, .slice RA rn rc] 25))) := ⟨below_alloc (Below.refl _ _) _⟩
  have HLD := Aside0.mk (laid_calls PA RA pc rc pl rl (w.alloc (.cells #[.slice PA pn pc, .slice RA rn rc] 25)) (Kd.C_below hP HB0.out) (Kd.C_below hR HB0.out) hp hpl hrl)
  rw [← hpn, ← hrn] at HLD
  rw [← hpn, ← hrn]
  have HT0 : Aside0 ((w.alloc (.cells #[.slice PA pn pc, .slice RA rn rc] 25)).heap[w.heap.size]? = some (.cells #[.slice PA pn pc, .slice RA rn rc] 25)) := ⟨blk_new _ _⟩
  clear hP hR hp hpl hrl hpn hrn
  go_enter Try.func3, Try.ntmps3
  have hx0 : (w.alloc (.cells #[.slice PA pn pc, .slice RA rn rc] 25)).cell? ⟨w.heap.size, 0, none⟩ = some (.slice PA pn pc) := (blk_cell HT0.out 0).trans rfl
  have hx1 : (w.alloc (.cells #[.slice PA pn pc, .slice RA rn rc] 25)).cell? ⟨w.heap.size, 1, none⟩ = some (.slice RA rn rc) := (blk_cell HT0.out 1).trans rfl
  go_wp2_with fail
  refine HLD.out.mono ?_
  rintro e w1 ⟨g, F, ps, out, RB, rb, R, rfl, hbe, -⟩
  have HN1 := Aside0.mk (net_lower hbe.net HB0.out.size)
  have HB1 := Aside0.mk (below_step HB0.out hbe.below)
  have HFB : Aside0 (∀ k, F k → w.heap.size + 1 ≤ k) := ⟨fun k hk => by have h := (hbe.net.ge k hk).1; rw [World.size_alloc] at h; exact h⟩
  obtain ⟨pm, hpm⟩ : ∃ pm, pm = ps.length := ⟨_, rfl⟩
  obtain ⟨rm, hrm⟩ : ∃ rm, rm = R.length := ⟨_, rfl⟩
  rw [← hpm, ← hrm]
  have HXA := Aside0.mk (blk_new w1 (.cells #[.int .i64 0, .slice none 0 0] 28))
  clear hbe hpm hrm hx0 hx1 HLD HT0 HB0
  go_wp2_with (first | ((with_reducible refine gate_store (t := 28) (p := 6) (v := .tmp 20) rfl ?_); refine wpList_store_row rfl 28 (.tmp 6) (.tmp 20) rfl w1.heap.size #[.int .i64 (pm : Nat), .slice RB rm rb] rfl rfl _ _ HXA.out infoNet rfl (by simp [Value.oneCell']) ?_; have hs := chg_row (cs := #[.int .i64 (pm : Nat), .slice RB rm rb]) HXA.out; have HXB := Aside0.mk hs.1; have hbx := (Chg.of_below (F := (fun _ => False)) (below_alloc (Below.refl w1.heap.size w1) (.cells #[.int .i64 0, .slice none 0 0] 28))).then hs.2 (fun i hi => Or.inr (Nat.le_of_eq (Eq.symm hi))); have HBB : Aside0 (Below w1.heap.size w1 ((w1.alloc (.cells #[.int .i64 0, .slice none 0 0] 28)).setRow w1.heap.size #[.int .i64 (pm : Nat), .slice RB rm rb])) := ⟨hbx.below (Nat.le_refl _) (fun _ q => q.elim)⟩; clear hs hbx; generalize (w1.alloc (.cells #[.int .i64 0, .slice none 0 0] 28)).setRow w1.heap.size #[.int .i64 (pm : Nat), .slice RB rm rb] = w2 at HXB HBB ⊢) | ((with_reducible refine gate_upon ?_); go_simp))
  refine (lives_calls _).mono ?_
  rintro e w3 ⟨rfl, hb3⟩
  have HN3 := Aside0.mk (HN1.out.below (below_step HBB.out hb3))
  have HB3 := Aside0.mk (below_step HB1.out (below_step HBB.out hb3))
  have HN0 : Aside0 (∀ k, F k → k < w3.heap.size) := ⟨fun k hk => (HN3.out.ge k hk).2⟩
  obtain ⟨n, hn⟩ : ∃ n, out.length = n := ⟨_, rfl⟩
  have HLN := Aside0.mk hn
  have HG : Aside0 (Roads.Good n out) := ⟨by rw [← hn]; exact HN3.out.good⟩
  have HN4 : Aside0 (n ≤ 4096) := ⟨by have := HN3.out.len; omega⟩
  clear hn hb3 HN1 HB1 HXA HXB HBB
  have HND : Aside0 (∀ W, Below w3.heap.size w3 W → Calls Try.prog 12 #[.pointer (some ⟨g, 0, none⟩)] W fun e w' => e = .returned (.int .i64 (n : Nat)) ∧ w' = W) := ⟨fun W h => by
    have := (HN3.out.below h).nodes
    rwa [HLN.out] at this⟩
  cases hv : isN out.length s with
  | false =>
   as_aux_lemma =>
    have HT : Aside0 (s < 0 ∨ (n : Int) ≤ s) := ⟨by
      rw [HLN.out] at hv
      rcases Int.lt_or_le s 0 with q | q
      · exact Or.inl q
      · right
        rcases Int.lt_or_le s n with q2 | q2
        · rw [isN_iff.2 ⟨q, q2⟩] at hv; cases hv
        · exact q2⟩
    have HFG := Aside0.mk (from_gone HN3.out HB3.out.size hv)
    clear hv
    go_wp2_with (first | fail | ((with_reducible refine gate_upon ?_); go_simp))
    refine HFG.out.mono ?_
    rintro e w4 ⟨rfl, hb4⟩
    have HB4 := Aside0.mk (below_step HB3.out hb4)
    have HNC := Aside0.mk (HND.out w4 hb4)
    clear hb4
    by_cases h0 : s < 0
    · have d1 : decide (s < 0) = true := decide_eq_true h0
      clear h0
      go_wp2_with (first | fail | ((with_reducible refine gate_upon ?_); go_simp))
      go_ret
      exact ⟨rfl, HB4.out⟩
    · have d1 : decide (s < 0) = false := decide_eq_false h0
      have d2 : decide ((n : Int) ≤ s) = true := decide_eq_true (by have := HT.out; omega)
      clear h0
      go_wp2_with (first | fail | ((with_reducible refine gate_upon ?_); go_simp))
      refine HNC.out.mono ?_
      rintro e w5 ⟨rfl, hw⟩
      have hw := hw.symm
      subst hw
      go_wp2_with (first | fail | ((with_reducible refine gate_upon ?_); go_simp))
      go_ret
      exact ⟨rfl, HB4.out⟩
  | true =>
   as_aux_lemma =>
    have HV : Aside0 (0 ≤ s ∧ s < n) := ⟨by rw [HLN.out] at hv; exact isN_iff.1 hv⟩
    have HNN : Aside0 (Net n (outOf out)) := ⟨net_of HG.out HLN.out⟩
    have HFR := Aside0.mk (from_row HN3.out HB3.out.size hv HLN.out)
    clear hv
    go_wp2_with (first | fail | ((with_reducible refine gate_upon ?_); go_simp))
    refine HFR.out.mono ?_
    rintro e w4 ⟨gw, cw, d, rfl, hr4, hd4, hb4⟩
    have HD := Aside0.mk hd4
    have HRW4 := Aside0.mk hr4
    have HN4' := Aside0.mk (HN3.out.below hb4)
    have HB4 := Aside0.mk (below_step HB3.out hb4)
    have HNC := Aside0.mk (HND.out w4 hb4)
    have hs0 : 0 ≤ s := HV.out.1
    have hsn : s < n := HV.out.2
    have d1 : decide (s < 0) = false := decide_eq_false (by omega)
    have d2 : decide ((n : Int) ≤ s) = false := decide_eq_false (by omega)
    have dl : ((n : Int) != (n : Int)) = false := by simp
    clear hr4 hd4 hb4 HN3 HB3 HFR HND
    go_wp2_with (first | fail | ((with_reducible refine gate_upon ?_); go_simp))
    refine HNC.out.mono ?_
    rintro e w5 ⟨rfl, hw⟩
    have hw := hw.symm
    subst hw
    go_wp2_with (first | fail | ((with_reducible refine gate_upon ?_); go_simp))
    refine HNC.out.mono ?_
    rintro e w5 ⟨rfl, hw⟩
    have hw := hw.symm
    subst hw
    have qs := row_at HRW4.out s hs0 hsn
    rw [HD.out.st] at qs
    clear HNC
    go_wp2_with (first | ((with_reducible refine gate_dst (N := 62) rfl ?_); refine Kd.R_make Kd.bool (w0 := w4) w4.heap.size 4 rfl (N := 62) rfl 37 (.tmp 61) (.tmp 61) rfl (n : Int) rfl rfl Try.underlying37 (.bool false) 1 infoB rfl (by decide) (by omega) false (ok := fun _ => True) (okp := fun _ => True) rfl (fun _ h => h) trivial (by omega) (by rw [Int.toNat_natCast]; have := HN4.out; omega) (Below.refl _ _) (Nat.le_refl _) ?_; intro u9 w9 h9 hb9 hg9 _; rw [Int.toNat_natCast] at h9; obtain ⟨gc, cc, he9, _⟩ := Kd.R_form h9 (by rw [List.length_replicate]; omega); rw [List.length_replicate] at he9; subst he9; have HR9 := Aside0.mk h9; have HB9 := Aside0.mk hb9; have hqc := (came_at h9 s hs0 hsn).1; have hqf := (came_at h9 s hs0 hsn).2; clear h9 hb9 hg9 qs) | ((with_reducible refine gate_upon ?_); go_simp))
    have HGC : Aside0 (w4.heap.size ≤ gc) := ⟨Kd.R_base HR9.out gc (by simp [Value.ownBlock])⟩
    have HR0 := Aside0.mk (came_put HR9.out s true)
    have HB0' := Aside0.mk (HB9.out.setCell (p := ⟨gc, s.toNat, none⟩) HGC.out (.bool true))
    have HCI := Aside0.mk (CameI.start (outf := outOf out) (c := d) HV.out)
    clear HR9 HB9 hqc hqf
    generalize w9.setCell ⟨gc, s.toNat, none⟩ (.bool true) = w10 at HR0 HB0' ⊢
    have HAT : Aside0 (∀ (W : World) (v : Int), Below w4.heap.size w4 W → 0 ≤ v → v < n → W.cell? ⟨gw, v.toNat, none⟩ = some (.int .i64 (cv d v))) := ⟨fun W v hb h0 h1 => row_at (Kd.R_below HRW4.out hb) v h0 h1⟩
    have HAN : Aside0 (∀ (W : World) (v : Nat), Below w4.heap.size w4 W → v < n → W.cell? ⟨gw, v, none⟩ = some (.int .i64 (cv d (v : Int)))) := ⟨fun W v hb h1 => row_nat (Kd.R_below HRW4.out hb) v h1⟩
    go_loopg [4, 11] n (fun kq v4 v11 w' => ∃ (i : Nat) (b : List Bool), v4 = .bool false ∧ v11 = .int .i64 i ∧ Aside0 (i + kq = n) ∧ Aside0 (Kd.bool.R 4 w' w4.heap.size (fun _ => True) (.slice (some ⟨gc, 0, none⟩) n cc) b) ∧ Aside0 (CameI n (outOf out) s d i 0 b) ∧ Aside0 (Below w4.heap.size w4 w'))
    case atStart => exact ⟨0, _, rfl, rfl, ⟨by omega⟩, HR0, HCI, HB0'⟩
    case round =>
     as_aux_lemma =>
      clear HR0 HCI HB0' HRW4
      obtain ⟨i, b, rfl, rfl, HI, HRB, HCI, HBW⟩ := hrel
      cases gk with
      | zero =>
       as_aux_lemma =>
        have hi : n = i := by have := HI.out; omega
        subst hi
        have hgt : decide (n < n) = false := decide_eq_false (by omega)
        have HDN := Aside0.mk (HCI.out.done HNN.out HD.out rfl HV.out.1)
        go_wp2_with (first | fail | ((with_reducible refine gate_upon ?_); go_simp))
        go_loopg [4, 15] n (fun kq v4 v15 w' => ∃ i : Nat, v4 = .bool false ∧ v15 = .int .i64 i ∧ Aside0 (i + kq = n) ∧ Aside0 (Kd.bool.R 4 w' w4.heap.size (fun _ => True) (.slice (some ⟨gc, 0, none⟩) n cc) b) ∧ Aside0 (Below w4.heap.size w4 w'))
        case atStart => exact ⟨0, rfl, rfl, ⟨by omega⟩, HRB, HBW⟩
        case round =>
         as_aux_lemma =>
          clear HRB HBW
          obtain ⟨i, rfl, rfl, HI, HRB, HBW⟩ := hrel
          cases gk with
          | zero =>
            have hi : n = i := by have := HI.out; omega
            subst hi
            have hgt : decide (n < n) = false := decide_eq_false (by omega)
            go_wp2_with (first | fail | ((with_reducible refine gate_upon ?_); go_simp))
            go_ret
            exact ⟨rfl, below_step HB4.out HBW.out⟩
          | succ gk2 =>
            have hin : i < n := by have := HI.out; omega
            have hlt : decide (i < n) = true := decide_eq_true hin
            have hltI : (i : Int) < n := by omega
            have HI1 : Aside0 (i + 1 + gk2 = n) := ⟨by have := HI.out; omega⟩
            have HWI : Aside0 (wrap64 ((i : Int) + 1) = (i : Int) + 1) := ⟨by unfold wrap64; have := HI.out; have := HN4.out; omega⟩
            have qd := HAN.out wr i HBW.out hin
            have qc := (came_at HRB.out (i : Int) (by omega) hltI).1
            rw [Int.toNat_natCast] at qc
            have hde := HDN.out i hin
            have hge := HD.out.ge (i : Int) (by omega)
            generalize cv d (i : Int) = di at qd hde hge
            generalize b.getD i false = bi at qc hde
            have d3 : decide (di < -1) = false := decide_eq_false (by omega)
            have d4 : (bi != bi) = false := by simp
            subst hde
            have HQ := Aside0.mk (And.intro qd qc)
            clear hge
            go_wp2_with (first | fail | ((with_reducible refine gate_upon ?_); go_simp))
            clear qd qc
            refine start_ (n := 17) (S := fun w' => w'.cell? ⟨gw, i, none⟩ = some (.int .i64 di) ∧ w'.cell? ⟨gc, i, none⟩ = some (.bool (decide (0 ≤ di)))) (ds := []) #[ff,ff,ff,ff,ff,ff,ff,ff,ff,ff,ff,ff,ff,ff,ff,ff,ff] (by kernel_rfl) rfl rfl ⟨HQ.out.1, HQ.out.2⟩ (fun hHeld => ?_)
            refine with_tabW edges.tab25 edges.bits25 (fun HT_ HW_ => ?_)
            have HRB7 := Aside0.mk (Kd.R_drew HRB.out)
            have HBW7 : Aside0 (Below w4.heap.size w4 wr.drew) := ⟨below_drew HBW.out⟩
            generalize wr.drew = w7 at HRB7 HBW7 hHeld ⊢
            refine pure_ (i := 0) (N := some 162) (v := ?_) (a' := ?_) #[tt,ff,ff,ff,ff,ff,ff,ff,ff,ff,ff,ff,ff,ff,ff,ff,ff] rfl rfl (any_of HT_.out (by kernel_rfl)) (fun _ _ _ h => h) (Or.inl ⟨by rfl, ?_⟩) ?_ ?_
            rotate_left; exact slv; rotate_left; exact sla
            refine pure_ (i := 1) (N := some 163) (v := ?_) (a' := ?_) #[tt,tt,ff,ff,ff,ff,ff,ff,ff,ff,ff,ff,ff,ff,ff,ff,ff] rfl rfl (any_of HT_.out (by kernel_rfl)) (fun _ _ _ h => h) (Or.inl ⟨by rfl, ?_⟩) ?_ ?_
            rotate_left; exact slv; rotate_left; exact sla
            refine pure_ (i := 2) (N := some 164) (v := ?_) (a' := ?_) #[tt,tt,tt,ff,ff,ff,ff,ff,ff,ff,ff,ff,ff,ff,ff,ff,ff] rfl rfl (any_of HT_.out (by kernel_rfl)) (fun _ _ _ h => h) (Or.inl ⟨by rfl, ?_⟩) ?_ ?_
            rotate_left; exact slv; rotate_left; exact sla
            refine take_ (i := 3) (N := some 165) (v := ?_) (a' := ?_) #[tt,tt,tt,tt,ff,ff,ff,ff,ff,ff,ff,ff,ff,ff,ff,ff,ff] rfl rfl (take_ofW HT_.out HW_.out (by kernel_rfl)) (fun _ _ _ h => h) (Or.inl ⟨by rfl, ?_⟩) hHeld ?_ ?_
            rotate_left; exact slt2; rotate_left; exact sla
            refine pure_ (i := 4) (N := some 166) (v := ?_) (a' := ?_) #[tt,tt,tt,tt,tt,ff,ff,ff,ff,ff,ff,ff,ff,ff,ff,ff,ff] rfl rfl (any_of HT_.out (by kernel_rfl)) (fun _ _ _ h => h) (Or.inl ⟨by rfl, ?_⟩) ?_ ?_
            rotate_left; exact slv; rotate_left; exact sla
            refine pure_ (i := 5) (N := some 167) (v := ?_) (a' := ?_) #[tt,tt,tt,tt,tt,tt,ff,ff,ff,ff,ff,ff,ff,ff,ff,ff,ff] rfl rfl (any_of HT_.out (by kernel_rfl)) (fun _ _ _ h => h) (Or.inl ⟨by rfl, ?_⟩) ?_ ?_
            rotate_left; exact slv; rotate_left; exact sla
            refine pure_ (i := 6) (N := some 168) (v := ?_) (a' := ?_) #[tt,tt,tt,tt,tt,tt,tt,ff,ff,ff,ff,ff,ff,ff,ff,ff,ff] rfl rfl (any_of HT_.out (by kernel_rfl)) (fun _ _ _ h => h) (Or.inl ⟨by rfl, ?_⟩) ?_ ?_
            rotate_left; exact slv; rotate_left; exact sla
            refine pure_ (i := 7) (N := some 169) (v := ?_) (a' := ?_) #[tt,tt,tt,tt,tt,tt,tt,tt,ff,ff,ff,ff,ff,ff,ff,ff,ff] rfl rfl (any_of HT_.out (by kernel_rfl)) (fun _ _ _ h => h) (Or.inl ⟨by rfl, ?_⟩) ?_ ?_
            rotate_left; exact slv; rotate_left; exact sla
            refine pure_ (i := 8) (N := some 170) (v := ?_) (a' := ?_) #[tt,tt,tt,tt,tt,tt,tt,tt,tt,ff,ff,ff,ff,ff,ff,ff,ff] rfl rfl (any_of HT_.out (by kernel_rfl)) (fun _ _ _ h => h) (Or.inl ⟨by rfl, ?_⟩) ?_ ?_
            rotate_left; exact slv; rotate_left; exact sla
            refine pure_ (i := 11) (N := some 173) (v := ?_) (a' := ?_) #[tt,tt,tt,tt,tt,tt,tt,tt,tt,ff,ff,tt,ff,ff,ff,ff,ff] rfl rfl (any_of HT_.out (by kernel_rfl)) (fun _ _ _ h => h) (Or.inl ⟨by rfl, ?_⟩) ?_ ?_
            rotate_left; exact slv; rotate_left; exact sla
            refine pure_ (i := 12) (N := some 174) (v := ?_) (a' := ?_) #[tt,tt,tt,tt,tt,tt,tt,tt,tt,ff,ff,tt,tt,ff,ff,ff,ff] rfl rfl (any_of HT_.out (by kernel_rfl)) (fun _ _ _ h => h) (Or.inl ⟨by rfl, ?_⟩) ?_ ?_
            rotate_left; exact slv; rotate_left; exact sla
            refine pure_ (i := 13) (N := some 175) (v := ?_) (a' := ?_) #[tt,tt,tt,tt,tt,tt,tt,tt,tt,ff,ff,tt,tt,tt,ff,ff,ff] rfl rfl (any_of HT_.out (by kernel_rfl)) (fun _ _ _ h => h) (Or.inl ⟨by rfl, ?_⟩) ?_ ?_
            rotate_left; exact slv; rotate_left; exact sla
            refine take_ (i := 9) (N := some 171) (v := ?_) (a' := ?_) #[tt,tt,tt,tt,tt,tt,tt,tt,tt,tt,ff,tt,tt,tt,ff,ff,ff] rfl rfl (take_ofW HT_.out HW_.out (by kernel_rfl)) (fun _ _ _ h => h) (Or.inl ⟨by rfl, ?_⟩) hHeld ?_ ?_
            rotate_left; exact slt2; rotate_left; exact sla
            refine pure_ (i := 10) (N := some 172) (v := ?_) (a' := ?_) #[tt,tt,tt,tt,tt,tt,tt,tt,tt,tt,tt,tt,tt,tt,ff,ff,ff] rfl rfl (any_of HT_.out (by kernel_rfl)) (fun _ _ _ h => h) (Or.inl ⟨by rfl, ?_⟩) ?_ ?_
            rotate_left; exact slv; rotate_left; exact sla
            refine take_ (i := 14) (N := some 176) (v := ?_) (a' := ?_) #[tt,tt,tt,tt,tt,tt,tt,tt,tt,tt,tt,tt,tt,tt,tt,ff,ff] rfl rfl (take_ofW HT_.out HW_.out (by kernel_rfl)) (fun _ _ _ h => h) (Or.inl ⟨by rfl, ?_⟩) hHeld ?_ ?_
            rotate_left; exact slt2; rotate_left; exact sla
            refine pure_ (i := 15) (N := some 177) (v := ?_) (a' := ?_) #[tt,tt,tt,tt,tt,tt,tt,tt,tt,tt,tt,tt,tt,tt,tt,tt,ff] rfl rfl (any_of HT_.out (by kernel_rfl)) (fun _ _ _ h => h) (Or.inl ⟨by rfl, ?_⟩) ?_ ?_
            rotate_left; exact slv; rotate_left; exact sla
            refine pure_ (i := 16) (N := some 178) (v := ?_) (a' := ?_) #[tt,tt,tt,tt,tt,tt,tt,tt,tt,tt,tt,tt,tt,tt,tt,tt,tt] rfl rfl (any_of HT_.out (by kernel_rfl)) (fun _ _ _ h => h) (Or.inl ⟨by rfl, ?_⟩) ?_ ?_
            rotate_left; exact slv; rotate_left; exact sla
            refine done_ (done_of HT_.out (by kernel_rfl)) ?_
            try clear hHeld
            have hwi := HWI.out
            go_wp2_with (first | fail | ((with_reducible refine gate_upon ?_); go_simp))
            go_roundg gk2
            case measure => first | exact Nat.lt_succ_self _ | omega
            case rel => exact ⟨i + 1, rfl, by first | rfl | (simp; done) | (rw [hwi]; done) | (rw [hwi]; rfl), HI1, HRB7, HBW7⟩
      | succ gk2 =>
       as_aux_lemma =>
        have hin : i < n := by have := HI.out; omega
        have hlt : decide (i < n) = true := decide_eq_true hin
        have hltI : (i : Int) < n := by omega
        have HI1 : Aside0 (i + 1 + gk2 = n) := ⟨by have := HI.out; omega⟩
        have HWI : Aside0 (wrap64 ((i : Int) + 1) = (i : Int) + 1) := ⟨by unfold wrap64; have := HI.out; have := HN4.out; omega⟩
        have HOU := Aside0.mk ((HN4'.out.below HBW.out).out (i : Int))
        have HRG : Aside0 (gc < wr.heap.size) := ⟨Kd.R_lt HRB.out gc (by simp [Value.ownBlock])⟩
        go_wp2_with (first | fail | ((with_reducible refine gate_upon ?_); go_simp))
        refine HOU.out.mono ?_
        rintro e w5 ⟨A5, c5, rfl, hr5, hb5⟩
        obtain ⟨L, hL⟩ : ∃ L, L = (outOf out (i : Int)).length := ⟨_, rfl⟩
        have HLL : Aside0 (L = (outOf out (i : Int)).length ∧ L ≤ 4096) := ⟨hL, by rw [hL]; exact out_len HG.out HLN.out HN4.out _⟩
        have HSE : Aside0 (Seen w5 A5 L (outOf out (i : Int)) (fun k => k = gc)) := ⟨⟨by rw [hL]; exact (Kd.R_reads' hr5).2.2, fun a ha => by
          subst ha
          have h1 := Kd.R_lt hr5 a.block (by simp [Value.ownBlock])
          have h2 := Kd.R_base hr5 a.block (by simp [Value.ownBlock])
          exact ⟨fun q => by have := HRG.out; omega, h1⟩⟩⟩
        have HRB5 := Aside0.mk (Kd.R_below HRB.out hb5)
        have HBW5 := Aside0.mk (below_step HBW.out hb5)
        rw [← hL]
        clear hr5 hb5 hL HRB HBW HOU HRG
        go_wp2_with (first | fail | ((with_reducible refine gate_upon ?_); go_simp))
        go_loopg [4, 13] L (fun kq v4 v13 w' => ∃ (k : Nat) (b : List Bool), v4 = .bool false ∧ v13 = .int .i64 k ∧ Aside0 (k + kq = L) ∧ Aside0 (Kd.bool.R 4 w' w4.heap.size (fun _ => True) (.slice (some ⟨gc, 0, none⟩) n cc) b) ∧ Aside0 (CameI n (outOf out) s d i k b) ∧ Aside0 (Seen w' A5 L (outOf out (i : Int)) (fun k => k = gc)) ∧ Aside0 (Below w4.heap.size w4 w'))
        case atStart => exact ⟨0, b, rfl, rfl, ⟨by omega⟩, HRB5, HCI, HSE, HBW5⟩
        case round =>
         as_aux_lemma =>
          clear HRB5 HCI HSE HBW5
          obtain ⟨k, b, rfl, rfl, HK, HRB, HCI, HSE, HBW⟩ := hrel
          cases gk with
          | zero =>
            have hk : L = k := by have := HK.out; omega
            subst hk
            have hgt : decide (L < L) = false := decide_eq_false (by omega)
            have hwi := HWI.out
            go_wp2_with (first | fail | ((with_reducible refine gate_upon ?_); go_simp))
            go_roundg gk2
            case measure => first | exact Nat.lt_succ_self _ | omega
            case rel => exact ⟨i + 1, b, rfl, by first | rfl | (simp; done) | (rw [hwi]; done) | (rw [hwi]; rfl), HI1, HRB, ⟨HCI.out.next (by rw [← HLL.out.1]; exact Nat.le_refl _)⟩, HBW⟩
          | succ gk3 =>
           as_aux_lemma =>
            have hkl : k < L := by have := HK.out; omega
            have hlt : decide (k < L) = true := decide_eq_true hkl
            have hltk : (k : Int) < L := by omega
            have HK1 : Aside0 (k + 1 + gk3 = L) := ⟨by have := HK.out; omega⟩
            have HWK : Aside0 (wrap64 ((k : Int) + 1) = (k : Int) + 1) := ⟨by unfold wrap64; have := HLL.out; have := HK.out; omega⟩
            obtain ⟨a, x, ha, hlx, hcx⟩ := rd_at HSE.out.c HLL.out.1 (j := k) (by rw [← HLL.out.1]; exact hkl)
            obtain ⟨q0, q1, q2⟩ := hcx wr (Below.refl _ _)
            have HLX := Aside0.mk hlx
            have hnet := HNN.out.road (i : Int) x (by omega) (by omega) (List.mem_of_getElem? hlx)
            have HOV : Aside0 (0 ≤ cv d (i : Int) → 0 ≤ cv d x.2.1 ∧ cv d x.2.1 ≤ cv d (i : Int) + x.2.2) := ⟨fun h => HD.out.over (i : Int) x (by omega) (by omega) h (List.mem_of_getElem? hlx)⟩
            obtain ⟨t, ht⟩ : ∃ t, t = x.2.1 := ⟨_, rfl⟩
            obtain ⟨co, hco⟩ : ∃ co, co = x.2.2 := ⟨_, rfl⟩
            have HTX := Aside0.mk (And.intro ht hco)
            rw [← ht, ← hco] at HOV hnet
            rw [← ht] at q1
            rw [← hco] at q2
            have HTT := Aside0.mk hnet
            have HXA := Aside0.mk (blk_new wr (.cells #[.int .i64 0, .int .i64 0, .int .i64 0] 40))
            have ht0 : 0 ≤ t := hnet.1
            have htn : t < n := hnet.2.1
            subst ha
            clear hlx hcx ht hco hnet
            go_upto_region 19 with (first | ((with_reducible refine gate_store (t := 40) (p := 14) (v := .tmp 84) rfl ?_); refine wpList_store_row rfl 40 (.tmp 14) (.tmp 84) rfl wr.heap.size #[.int .i64 x.1, .int .i64 t, .int .i64 co] rfl rfl _ _ HXA.out infoRo rfl (by simp [Value.oneCell']) ?_; have hs := chg_row (cs := #[.int .i64 x.1, .int .i64 t, .int .i64 co]) HXA.out; have HXB := Aside0.mk hs.1; have hbx := (Chg.of_below (F := (fun _ => False)) (below_alloc (Below.refl wr.heap.size wr) (.cells #[.int .i64 0, .int .i64 0, .int .i64 0] 40))).then hs.2 (fun i hi => Or.inr (Nat.le_of_eq (Eq.symm hi))); have HBB : Aside0 (Below wr.heap.size wr ((wr.alloc (.cells #[.int .i64 0, .int .i64 0, .int .i64 0] 40)).setRow wr.heap.size #[.int .i64 x.1, .int .i64 t, .int .i64 co])) := ⟨hbx.below (Nat.le_refl _) (fun _ q => q.elim)⟩; clear hs hbx; generalize (wr.alloc (.cells #[.int .i64 0, .int .i64 0, .int .i64 0] 40)).setRow wr.heap.size #[.int .i64 x.1, .int .i64 t, .int .i64 co] = wB at HXB HBB ⊢) | ((with_reducible refine gate_upon ?_); go_simp))
            clear q0 q1 q2
            have HRBB := Aside0.mk (Kd.R_below HRB.out HBB.out)
            have HSEB := Aside0.mk (HSE.out.step HBB.out)
            have HBWB := Aside0.mk (below_step HBW.out HBB.out)
            obtain ⟨gx, hgx⟩ : ∃ gx, gx = wr.heap.size := ⟨_, rfl⟩
            rw [← hgx] at HXB
            rw [← hgx]
            clear hgx HXA HBB HRB HSE HBW
            have HDI : Aside0 (∀ W, Below w4.heap.size w4 W → W.cell? ⟨gw, i, none⟩ = some (.int .i64 (cv d (i : Int))) ∧ W.cell? ⟨gw, t.toNat, none⟩ = some (.int .i64 (cv d t))) := ⟨fun W h => ⟨HAN.out W i h hin, HAT.out W t h ht0 htn⟩⟩
            have HMO : Aside0 (cv d (i : Int) ≤ 1048576 * n ∧ -1 ≤ cv d (i : Int)) := ⟨HD.out.most _ (by omega) (by omega), HD.out.ge _ (by omega)⟩
            have HST : Aside0 (∀ q : Bool, q = (b.getD t.toNat false || (decide (0 ≤ cv d (i : Int)) && decide (cv d t = cv d (i : Int) + co))) → CameI n (outOf out) s d i (k + 1) (b.set t.toNat q)) := ⟨fun q hq => by
              have h := HCI.out.step (x := x) HLX.out (by rw [← HTX.out.1]; exact ht0) (by rw [← HTX.out.1]; exact htn) (q := q) (by rw [← HTX.out.1, ← HTX.out.2]; exact hq)
              rwa [← HTX.out.1] at h⟩
            obtain ⟨bt, hbt⟩ : ∃ bt, bt = b.getD t.toNat false := ⟨_, rfl⟩
            have HCT : Aside0 (wB.cell? ⟨gc, t.toNat, none⟩ = some (.bool bt)) := ⟨by rw [hbt]; exact (came_at HRBB.out t ht0 htn).1⟩
            rw [← hbt] at HST
            clear hbt
            obtain ⟨di, hdi⟩ : ∃ di, di = cv d (i : Int) := ⟨_, rfl⟩
            obtain ⟨dt, hdt⟩ : ∃ dt, dt = cv d t := ⟨_, rfl⟩
            rw [← hdi] at HDI HMO HST HOV
            rw [← hdt] at HDI HST HOV
            clear hdi hdt
            have HWC : Aside0 (wrap64 (di + co) = di + co) := ⟨by unfold wrap64; have := HMO.out; have := HTT.out; have := HN4.out; omega⟩
            have e1 : decide (t < 0) = false := decide_eq_false (by omega)
            have e2 : decide ((n : Int) ≤ t) = false := decide_eq_false (by omega)
            have hx1 : wB.cell? ⟨gx, 1, none⟩ = some (.int .i64 t) := (blk_cell HXB.out 1).trans rfl
            have hx2 : wB.cell? ⟨gx, 2, none⟩ = some (.int .i64 co) := (blk_cell HXB.out 2).trans rfl
            have hw1 := HWC.out
            by_cases a1 : 0 ≤ di
            · have c1 : decide (0 ≤ di) = true := decide_eq_true a1
              have HO2 : Aside0 (0 ≤ dt ∧ dt ≤ di + co) := ⟨HOV.out a1⟩
              have c2 : decide (dt < 0) = false := decide_eq_false (by have := HO2.out; omega)
              have c3 : decide (di + co < dt) = false := decide_eq_false (by have := HO2.out; omega)
              clear a1
              refine start_ (n := 40) (S := fun w' => w'.cell? ⟨gx, 1, none⟩ = some (.int .i64 t) ∧ w'.cell? ⟨gx, 2, none⟩ = some (.int .i64 co) ∧ w'.cell? ⟨gw, i, none⟩ = some (.int .i64 di) ∧ w'.cell? ⟨gw, t.toNat, none⟩ = some (.int .i64 dt)) (ds := []) #[ff,ff,ff,ff,ff,ff,ff,ff,ff,ff,ff,ff,ff,ff,ff,ff,ff,ff,ff,ff,ff,ff,ff,ff,ff,ff,ff,ff,ff,ff,ff,ff,ff,ff,ff,ff,ff,ff,ff,ff] (by kernel_rfl) rfl rfl ⟨hx1, hx2, (HDI.out _ HBWB.out).1, (HDI.out _ HBWB.out).2⟩ (fun hHeld => ?_)
              refine with_tabW edges.tab19 edges.bits19 (fun HT_ HW_ => ?_)
              have HR7 := Aside0.mk (Kd.R_drew HRBB.out)
              have HS7 := Aside0.mk (HSEB.out.step (below_drew1 (Below.refl wB.heap.size wB)))
              have HB7 : Aside0 (Below w4.heap.size w4 wB.drew) := ⟨below_drew HBWB.out⟩
              have HX7 : Aside0 (wB.drew.heap[gx]? = _) := ⟨HXB.out⟩
              have HC7 : Aside0 (wB.drew.cell? ⟨gc, t.toNat, none⟩ = some (.bool bt)) := ⟨HCT.out⟩
              clear HRBB HSEB HBWB HXB HCT hx1 hx2
              generalize wB.drew = w7 at HR7 HS7 HB7 HX7 HC7 hHeld ⊢
              refine pure_ (i := 0) (N := some 85) (v := ?_) (a' := ?_) #[tt,ff,ff,ff,ff,ff,ff,ff,ff,ff,ff,ff,ff,ff,ff,ff,ff,ff,ff,ff,ff,ff,ff,ff,ff,ff,ff,ff,ff,ff,ff,ff,ff,ff,ff,ff,ff,ff,ff,ff] rfl rfl (any_of HT_.out (by kernel_rfl)) (fun _ _ _ h => h) (Or.inl ⟨by rfl, ?_⟩) ?_ ?_
              rotate_left; exact slv; rotate_left; exact sla
              refine take_ (i := 1) (N := some 86) (v := ?_) (a' := ?_) #[tt,tt,ff,ff,ff,ff,ff,ff,ff,ff,ff,ff,ff,ff,ff,ff,ff,ff,ff,ff,ff,ff,ff,ff,ff,ff,ff,ff,ff,ff,ff,ff,ff,ff,ff,ff,ff,ff,ff,ff] rfl rfl (take_ofW HT_.out HW_.out (by kernel_rfl)) (fun _ _ _ h => h) (Or.inl ⟨by rfl, ?_⟩) hHeld ?_ ?_
              rotate_left; exact slt4; rotate_left; exact sla
              refine pure_ (i := 2) (N := some 87) (v := ?_) (a' := ?_) #[tt,tt,tt,ff,ff,ff,ff,ff,ff,ff,ff,ff,ff,ff,ff,ff,ff,ff,ff,ff,ff,ff,ff,ff,ff,ff,ff,ff,ff,ff,ff,ff,ff,ff,ff,ff,ff,ff,ff,ff] rfl rfl (any_of HT_.out (by kernel_rfl)) (fun _ _ _ h => h) (Or.inl ⟨by rfl, ?_⟩) ?_ ?_
              rotate_left; exact slv; rotate_left; exact sla
              refine pure_ (i := 3) (N := some 88) (v := ?_) (a' := ?_) #[tt,tt,tt,tt,ff,ff,ff,ff,ff,ff,ff,ff,ff,ff,ff,ff,ff,ff,ff,ff,ff,ff,ff,ff,ff,ff,ff,ff,ff,ff,ff,ff,ff,ff,ff,ff,ff,ff,ff,ff] rfl rfl (any_of HT_.out (by kernel_rfl)) (fun _ _ _ h => h) (Or.inl ⟨by rfl, ?_⟩) ?_ ?_
              rotate_left; exact slv; rotate_left; exact sla
              refine pure_ (i := 4) (N := some 89) (v := ?_) (a' := ?_) #[tt,tt,tt,tt,tt,ff,ff,ff,ff,ff,ff,ff,ff,ff,ff,ff,ff,ff,ff,ff,ff,ff,ff,ff,ff,ff,ff,ff,ff,ff,ff,ff,ff,ff,ff,ff,ff,ff,ff,ff] rfl rfl (any_of HT_.out (by kernel_rfl)) (fun _ _ _ h => h) (Or.inl ⟨by rfl, ?_⟩) ?_ ?_
              rotate_left; exact slv; rotate_left; exact sla
              refine pure_ (i := 6) (N := some 91) (v := ?_) (a' := ?_) #[tt,tt,tt,tt,tt,ff,tt,ff,ff,ff,ff,ff,ff,ff,ff,ff,ff,ff,ff,ff,ff,ff,ff,ff,ff,ff,ff,ff,ff,ff,ff,ff,ff,ff,ff,ff,ff,ff,ff,ff] rfl rfl (any_of HT_.out (by kernel_rfl)) (fun _ _ _ h => h) (Or.inl ⟨by rfl, ?_⟩) ?_ ?_
              rotate_left; exact slv; rotate_left; exact sla
              refine pure_ (i := 7) (N := some 92) (v := ?_) (a' := ?_) #[tt,tt,tt,tt,tt,ff,tt,tt,ff,ff,ff,ff,ff,ff,ff,ff,ff,ff,ff,ff,ff,ff,ff,ff,ff,ff,ff,ff,ff,ff,ff,ff,ff,ff,ff,ff,ff,ff,ff,ff] rfl rfl (any_of HT_.out (by kernel_rfl)) (fun _ _ _ h => h) (Or.inl ⟨by rfl, ?_⟩) ?_ ?_
              rotate_left; exact slv; rotate_left; exact sla
              refine take_ (i := 5) (N := some 90) (v := ?_) (a' := ?_) #[tt,tt,tt,tt,tt,tt,tt,tt,ff,ff,ff,ff,ff,ff,ff,ff,ff,ff,ff,ff,ff,ff,ff,ff,ff,ff,ff,ff,ff,ff,ff,ff,ff,ff,ff,ff,ff,ff,ff,ff] rfl rfl (take_ofW HT_.out HW_.out (by kernel_rfl)) (fun _ _ _ h => h) (Or.inl ⟨by rfl, ?_⟩) hHeld ?_ ?_
              rotate_left; exact slt4; rotate_left; exact sla
              refine pure_ (i := 8) (N := some 93) (v := ?_) (a' := ?_) #[tt,tt,tt,tt,tt,tt,tt,tt,tt,ff,ff,ff,ff,ff,ff,ff,ff,ff,ff,ff,ff,ff,ff,ff,ff,ff,ff,ff,ff,ff,ff,ff,ff,ff,ff,ff,ff,ff,ff,ff] rfl rfl (any_of HT_.out (by kernel_rfl)) (fun _ _ _ h => h) (Or.inl ⟨by rfl, ?_⟩) ?_ ?_
              rotate_left; exact slv; rotate_left; exact sla
              refine pure_ (i := 9) (N := some 94) (v := ?_) (a' := ?_) #[tt,tt,tt,tt,tt,tt,tt,tt,tt,tt,ff,ff,ff,ff,ff,ff,ff,ff,ff,ff,ff,ff,ff,ff,ff,ff,ff,ff,ff,ff,ff,ff,ff,ff,ff,ff,ff,ff,ff,ff] rfl rfl (any_of HT_.out (by kernel_rfl)) (fun _ _ _ h => h) (Or.inl ⟨by rfl, ?_⟩) ?_ ?_
              rotate_left; exact slv; rotate_left; exact sla
              refine pure_ (i := 10) (N := some 95) (v := ?_) (a' := ?_) #[tt,tt,tt,tt,tt,tt,tt,tt,tt,tt,tt,ff,ff,ff,ff,ff,ff,ff,ff,ff,ff,ff,ff,ff,ff,ff,ff,ff,ff,ff,ff,ff,ff,ff,ff,ff,ff,ff,ff,ff] rfl rfl (any_of HT_.out (by kernel_rfl)) (fun _ _ _ h => h) (Or.inl ⟨by rfl, ?_⟩) ?_ ?_
              rotate_left; exact slv; rotate_left; exact sla
              refine pure_ (i := 11) (N := some 96) (v := ?_) (a' := ?_) #[tt,tt,tt,tt,tt,tt,tt,tt,tt,tt,tt,tt,ff,ff,ff,ff,ff,ff,ff,ff,ff,ff,ff,ff,ff,ff,ff,ff,ff,ff,ff,ff,ff,ff,ff,ff,ff,ff,ff,ff] rfl rfl (any_of HT_.out (by kernel_rfl)) (fun _ _ _ h => h) (Or.inl ⟨by rfl, ?_⟩) ?_ ?_
              rotate_left; exact slv; rotate_left; exact sla
              refine pure_ (i := 12) (N := some 97) (v := ?_) (a' := ?_) #[tt,tt,tt,tt,tt,tt,tt,tt,tt,tt,tt,tt,tt,ff,ff,ff,ff,ff,ff,ff,ff,ff,ff,ff,ff,ff,ff,ff,ff,ff,ff,ff,ff,ff,ff,ff,ff,ff,ff,ff] rfl rfl (any_of HT_.out (by kernel_rfl)) (fun _ _ _ h => h) (Or.inl ⟨by rfl, ?_⟩) ?_ ?_
              rotate_left; exact slv; rotate_left; exact sla
              refine pure_ (i := 13) (N := some 98) (v := ?_) (a' := ?_) #[tt,tt,tt,tt,tt,tt,tt,tt,tt,tt,tt,tt,tt,tt,ff,ff,ff,ff,ff,ff,ff,ff,ff,ff,ff,ff,ff,ff,ff,ff,ff,ff,ff,ff,ff,ff,ff,ff,ff,ff] rfl rfl (any_of HT_.out (by kernel_rfl)) (fun _ _ _ h => h) (Or.inl ⟨by rfl, ?_⟩) ?_ ?_
              rotate_left; exact slv; rotate_left; exact sla
              refine take_ (i := 14) (N := some 99) (v := ?_) (a' := ?_) #[tt,tt,tt,tt,tt,tt,tt,tt,tt,tt,tt,tt,tt,tt,tt,ff,ff,ff,ff,ff,ff,ff,ff,ff,ff,ff,ff,ff,ff,ff,ff,ff,ff,ff,ff,ff,ff,ff,ff,ff] rfl rfl (take_ofW HT_.out HW_.out (by kernel_rfl)) (fun _ _ _ h => h) (Or.inl ⟨by rfl, ?_⟩) hHeld ?_ ?_
              rotate_left; exact slt4; rotate_left; exact sla
              refine pure_ (i := 15) (N := some 100) (v := ?_) (a' := ?_) #[tt,tt,tt,tt,tt,tt,tt,tt,tt,tt,tt,tt,tt,tt,tt,tt,ff,ff,ff,ff,ff,ff,ff,ff,ff,ff,ff,ff,ff,ff,ff,ff,ff,ff,ff,ff,ff,ff,ff,ff] rfl rfl (any_of HT_.out (by kernel_rfl)) (fun _ _ _ h => h) (Or.inl ⟨by rfl, ?_⟩) ?_ ?_
              rotate_left; exact slv; rotate_left; exact sla
              refine pure_ (i := 16) (N := some 101) (v := ?_) (a' := ?_) #[tt,tt,tt,tt,tt,tt,tt,tt,tt,tt,tt,tt,tt,tt,tt,tt,tt,ff,ff,ff,ff,ff,ff,ff,ff,ff,ff,ff,ff,ff,ff,ff,ff,ff,ff,ff,ff,ff,ff,ff] rfl rfl (any_of HT_.out (by kernel_rfl)) (fun _ _ _ h => h) (Or.inl ⟨by rfl, ?_⟩) ?_ ?_
              rotate_left; exact slv; rotate_left; exact sla
              refine pure_ (i := 17) (N := some 102) (v := ?_) (a' := ?_) #[tt,tt,tt,tt,tt,tt,tt,tt,tt,tt,tt,tt,tt,tt,tt,tt,tt,tt,ff,ff,ff,ff,ff,ff,ff,ff,ff,ff,ff,ff,ff,ff,ff,ff,ff,ff,ff,ff,ff,ff] rfl rfl (any_of HT_.out (by kernel_rfl)) (fun _ _ _ h => h) (Or.inl ⟨by rfl, ?_⟩) ?_ ?_
              rotate_left; exact slv; rotate_left; exact sla
              refine pure_ (i := 18) (N := some 103) (v := ?_) (a' := ?_) #[tt,tt,tt,tt,tt,tt,tt,tt,tt,tt,tt,tt,tt,tt,tt,tt,tt,tt,tt,ff,ff,ff,ff,ff,ff,ff,ff,ff,ff,ff,ff,ff,ff,ff,ff,ff,ff,ff,ff,ff] rfl rfl (any_of HT_.out (by kernel_rfl)) (fun _ _ _ h => h) (Or.inl ⟨by rfl, ?_⟩) ?_ ?_
              rotate_left; exact slv; rotate_left; exact sla
              refine take_ (i := 19) (N := some 104) (v := ?_) (a' := ?_) #[tt,tt,tt,tt,tt,tt,tt,tt,tt,tt,tt,tt,tt,tt,tt,tt,tt,tt,tt,tt,ff,ff,ff,ff,ff,ff,ff,ff,ff,ff,ff,ff,ff,ff,ff,ff,ff,ff,ff,ff] rfl rfl (take_ofW HT_.out HW_.out (by kernel_rfl)) (fun _ _ _ h => h) (Or.inl ⟨by rfl, ?_⟩) hHeld ?_ ?_
              rotate_left; exact slt4; rotate_left; exact sla
              refine pure_ (i := 20) (N := some 105) (v := ?_) (a' := ?_) #[tt,tt,tt,tt,tt,tt,tt,tt,tt,tt,tt,tt,tt,tt,tt,tt,tt,tt,tt,tt,tt,ff,ff,ff,ff,ff,ff,ff,ff,ff,ff,ff,ff,ff,ff,ff,ff,ff,ff,ff] rfl rfl (any_of HT_.out (by kernel_rfl)) (fun _ _ _ h => h) (Or.inl ⟨by rfl, ?_⟩) ?_ ?_
              rotate_left; exact slv; rotate_left; exact sla
              refine take_ (i := 21) (N := some 106) (v := ?_) (a' := ?_) #[tt,tt,tt,tt,tt,tt,tt,tt,tt,tt,tt,tt,tt,tt,tt,tt,tt,tt,tt,tt,tt,tt,ff,ff,ff,ff,ff,ff,ff,ff,ff,ff,ff,ff,ff,ff,ff,ff,ff,ff] rfl rfl (take_ofW HT_.out HW_.out (by kernel_rfl)) (fun _ _ _ h => h) (Or.inl ⟨by rfl, ?_⟩) hHeld ?_ ?_
              rotate_left; exact slt4; rotate_left; exact sla
              refine pure_ (i := 22) (N := some 107) (v := ?_) (a' := ?_) #[tt,tt,tt,tt,tt,tt,tt,tt,tt,tt,tt,tt,tt,tt,tt,tt,tt,tt,tt,tt,tt,tt,tt,ff,ff,ff,ff,ff,ff,ff,ff,ff,ff,ff,ff,ff,ff,ff,ff,ff] rfl rfl (any_of HT_.out (by kernel_rfl)) (fun _ _ _ h => h) (Or.inl ⟨by rfl, ?_⟩) ?_ ?_
              rotate_left; exact slv; rotate_left; exact sla
              refine pure_ (i := 23) (N := some 108) (v := ?_) (a' := ?_) #[tt,tt,tt,tt,tt,tt,tt,tt,tt,tt,tt,tt,tt,tt,tt,tt,tt,tt,tt,tt,tt,tt,tt,tt,ff,ff,ff,ff,ff,ff,ff,ff,ff,ff,ff,ff,ff,ff,ff,ff] rfl rfl (any_of HT_.out (by kernel_rfl)) (fun _ _ _ h => h) (Or.inl ⟨by rfl, ?_⟩) ?_ ?_
              rotate_left; exact slv; rotate_left; exact sla
              refine pure_ (i := 24) (N := some 109) (v := ?_) (a' := ?_) #[tt,tt,tt,tt,tt,tt,tt,tt,tt,tt,tt,tt,tt,tt,tt,tt,tt,tt,tt,tt,tt,tt,tt,tt,tt,ff,ff,ff,ff,ff,ff,ff,ff,ff,ff,ff,ff,ff,ff,ff] rfl rfl (any_of HT_.out (by kernel_rfl)) (fun _ _ _ h => h) (Or.inl ⟨by rfl, ?_⟩) ?_ ?_
              rotate_left; exact slv; rotate_left; exact sla
              refine pure_ (i := 25) (N := some 110) (v := ?_) (a' := ?_) #[tt,tt,tt,tt,tt,tt,tt,tt,tt,tt,tt,tt,tt,tt,tt,tt,tt,tt,tt,tt,tt,tt,tt,tt,tt,tt,ff,ff,ff,ff,ff,ff,ff,ff,ff,ff,ff,ff,ff,ff] rfl rfl (any_of HT_.out (by kernel_rfl)) (fun _ _ _ h => h) (Or.inl ⟨by rfl, ?_⟩) ?_ ?_
              rotate_left; exact slv; rotate_left; exact sla
              refine pure_ (i := 29) (N := some 114) (v := ?_) (a' := ?_) #[tt,tt,tt,tt,tt,tt,tt,tt,tt,tt,tt,tt,tt,tt,tt,tt,tt,tt,tt,tt,tt,tt,tt,tt,tt,tt,ff,ff,ff,tt,ff,ff,ff,ff,ff,ff,ff,ff,ff,ff] rfl rfl (any_of HT_.out (by kernel_rfl)) (fun _ _ _ h => h) (Or.inl ⟨by rfl, ?_⟩) ?_ ?_
              rotate_left; exact slv; rotate_left; exact sla
              refine pure_ (i := 30) (N := some 115) (v := ?_) (a' := ?_) #[tt,tt,tt,tt,tt,tt,tt,tt,tt,tt,tt,tt,tt,tt,tt,tt,tt,tt,tt,tt,tt,tt,tt,tt,tt,tt,ff,ff,ff,tt,tt,ff,ff,ff,ff,ff,ff,ff,ff,ff] rfl rfl (any_of HT_.out (by kernel_rfl)) (fun _ _ _ h => h) (Or.inl ⟨by rfl, ?_⟩) ?_ ?_
              rotate_left; exact slv; rotate_left; exact sla
              refine pure_ (i := 31) (N := some 116) (v := ?_) (a' := ?_) #[tt,tt,tt,tt,tt,tt,tt,tt,tt,tt,tt,tt,tt,tt,tt,tt,tt,tt,tt,tt,tt,tt,tt,tt,tt,tt,ff,ff,ff,tt,tt,tt,ff,ff,ff,ff,ff,ff,ff,ff] rfl rfl (any_of HT_.out (by kernel_rfl)) (fun _ _ _ h => h) (Or.inl ⟨by rfl, ?_⟩) ?_ ?_
              rotate_left; exact slv; rotate_left; exact sla
              refine pure_ (i := 33) (N := some 118) (v := ?_) (a' := ?_) #[tt,tt,tt,tt,tt,tt,tt,tt,tt,tt,tt,tt,tt,tt,tt,tt,tt,tt,tt,tt,tt,tt,tt,tt,tt,tt,ff,ff,ff,tt,tt,tt,ff,tt,ff,ff,ff,ff,ff,ff] rfl rfl (any_of HT_.out (by kernel_rfl)) (fun _ _ _ h => h) (Or.inl ⟨by rfl, ?_⟩) ?_ ?_
              rotate_left; exact slv; rotate_left; exact sla
              refine take_ (i := 26) (N := some 111) (v := ?_) (a' := ?_) #[tt,tt,tt,tt,tt,tt,tt,tt,tt,tt,tt,tt,tt,tt,tt,tt,tt,tt,tt,tt,tt,tt,tt,tt,tt,tt,tt,ff,ff,tt,tt,tt,ff,tt,ff,ff,ff,ff,ff,ff] rfl rfl (take_ofW HT_.out HW_.out (by kernel_rfl)) (fun _ _ _ h => h) (Or.inl ⟨by rfl, ?_⟩) hHeld ?_ ?_
              rotate_left; exact slt4; rotate_left; exact sla
              refine pure_ (i := 27) (N := some 112) (v := ?_) (a' := ?_) #[tt,tt,tt,tt,tt,tt,tt,tt,tt,tt,tt,tt,tt,tt,tt,tt,tt,tt,tt,tt,tt,tt,tt,tt,tt,tt,tt,tt,ff,tt,tt,tt,ff,tt,ff,ff,ff,ff,ff,ff] rfl rfl (any_of HT_.out (by kernel_rfl)) (fun _ _ _ h => h) (Or.inl ⟨by rfl, ?_⟩) ?_ ?_
              rotate_left; exact slv; rotate_left; exact sla
              refine take_ (i := 28) (N := some 113) (v := ?_) (a' := ?_) #[tt,tt,tt,tt,tt,tt,tt,tt,tt,tt,tt,tt,tt,tt,tt,tt,tt,tt,tt,tt,tt,tt,tt,tt,tt,tt,tt,tt,tt,tt,tt,tt,ff,tt,ff,ff,ff,ff,ff,ff] rfl rfl (take_ofW HT_.out HW_.out (by kernel_rfl)) (fun _ _ _ h => h) (Or.inl ⟨by rfl, ?_⟩) hHeld ?_ ?_
              rotate_left; exact slt4; rotate_left; exact sla
              refine take_ (i := 32) (N := some 117) (v := ?_) (a' := ?_) #[tt,tt,tt,tt,tt,tt,tt,tt,tt,tt,tt,tt,tt,tt,tt,tt,tt,tt,tt,tt,tt,tt,tt,tt,tt,tt,tt,tt,tt,tt,tt,tt,tt,tt,ff,ff,ff,ff,ff,ff] rfl rfl (take_ofW HT_.out HW_.out (by kernel_rfl)) (fun _ _ _ h => h) (Or.inl ⟨by rfl, ?_⟩) hHeld ?_ ?_
              rotate_left; exact slt4; rotate_left; exact sla
              refine take_ (i := 34) (N := some 119) (v := ?_) (a' := ?_) #[tt,tt,tt,tt,tt,tt,tt,tt,tt,tt,tt,tt,tt,tt,tt,tt,tt,tt,tt,tt,tt,tt,tt,tt,tt,tt,tt,tt,tt,tt,tt,tt,tt,tt,tt,ff,ff,ff,ff,ff] rfl rfl (take_ofW HT_.out HW_.out (by kernel_rfl)) (fun _ _ _ h => h) (Or.inl ⟨by rfl, ?_⟩) hHeld ?_ ?_
              rotate_left; exact slt4; rotate_left; exact sla
              refine pure_ (i := 35) (N := some 120) (v := ?_) (a' := ?_) #[tt,tt,tt,tt,tt,tt,tt,tt,tt,tt,tt,tt,tt,tt,tt,tt,tt,tt,tt,tt,tt,tt,tt,tt,tt,tt,tt,tt,tt,tt,tt,tt,tt,tt,tt,tt,ff,ff,ff,ff] rfl rfl (any_of HT_.out (by kernel_rfl)) (fun _ _ _ h => h) (Or.inl ⟨by rfl, ?_⟩) ?_ ?_
              rotate_left; exact slv; rotate_left; exact sla
              refine pure_ (i := 36) (N := some 121) (v := ?_) (a' := ?_) #[tt,tt,tt,tt,tt,tt,tt,tt,tt,tt,tt,tt,tt,tt,tt,tt,tt,tt,tt,tt,tt,tt,tt,tt,tt,tt,tt,tt,tt,tt,tt,tt,tt,tt,tt,tt,tt,ff,ff,ff] rfl rfl (any_of HT_.out (by kernel_rfl)) (fun _ _ _ h => h) (Or.inl ⟨by rfl, ?_⟩) ?_ ?_
              rotate_left; exact slv; rotate_left; exact sla
              refine pure_ (i := 37) (N := some 122) (v := ?_) (a' := ?_) #[tt,tt,tt,tt,tt,tt,tt,tt,tt,tt,tt,tt,tt,tt,tt,tt,tt,tt,tt,tt,tt,tt,tt,tt,tt,tt,tt,tt,tt,tt,tt,tt,tt,tt,tt,tt,tt,tt,ff,ff] rfl rfl (any_of HT_.out (by kernel_rfl)) (fun _ _ _ h => h) (Or.inl ⟨by rfl, ?_⟩) ?_ ?_
              rotate_left; exact slv; rotate_left; exact sla
              refine pure_ (i := 38) (N := some 123) (v := ?_) (a' := ?_) #[tt,tt,tt,tt,tt,tt,tt,tt,tt,tt,tt,tt,tt,tt,tt,tt,tt,tt,tt,tt,tt,tt,tt,tt,tt,tt,tt,tt,tt,tt,tt,tt,tt,tt,tt,tt,tt,tt,tt,ff] rfl rfl (any_of HT_.out (by kernel_rfl)) (fun _ _ _ h => h) (Or.inl ⟨by rfl, ?_⟩) ?_ ?_
              rotate_left; exact slv; rotate_left; exact sla
              refine pure_ (i := 39) (N := some 124) (v := ?_) (a' := ?_) #[tt,tt,tt,tt,tt,tt,tt,tt,tt,tt,tt,tt,tt,tt,tt,tt,tt,tt,tt,tt,tt,tt,tt,tt,tt,tt,tt,tt,tt,tt,tt,tt,tt,tt,tt,tt,tt,tt,tt,tt] rfl rfl (any_of HT_.out (by kernel_rfl)) (fun _ _ _ h => h) (Or.inl ⟨by rfl, ?_⟩) ?_ ?_
              rotate_left; exact slv; rotate_left; exact sla
              refine done_ (done_of HT_.out (by kernel_rfl)) ?_
              try clear hHeld hw1
              go_wp2_with (first | fail | ((with_reducible refine gate_upon ?_); go_simp))
              have hw1 := HWC.out
              cases bt with
              | true =>
                have HSQ : Aside0 (CameI n (outOf out) s d i (k + 1) (b.set t.toNat true)) := ⟨HST.out true (by simp)⟩
                refine start_ (n := 32) (S := fun w' => w'.cell? ⟨gx, 1, none⟩ = some (.int .i64 t) ∧ w'.cell? ⟨gx, 2, none⟩ = some (.int .i64 co) ∧ w'.cell? ⟨gw, i, none⟩ = some (.int .i64 di) ∧ w'.cell? ⟨gw, t.toNat, none⟩ = some (.int .i64 dt) ∧ w'.cell? ⟨gc, t.toNat, none⟩ = some (.bool true)) (ds := [31]) #[ff,ff,ff,ff,ff,ff,ff,ff,ff,ff,ff,ff,ff,ff,ff,ff,ff,ff,ff,ff,ff,ff,ff,ff,ff,ff,ff,ff,ff,ff,ff,ff] (by kernel_rfl) rfl rfl ⟨(blk_cell HX7.out 1).trans rfl, (blk_cell HX7.out 2).trans rfl, (HDI.out _ HB7.out).1, (HDI.out _ HB7.out).2, HC7.out⟩ (fun hHeld => ?_)
                refine with_tabW edges.tab21 edges.bits21 (fun HT_ HW_ => ?_)
                have HR8 := Aside0.mk (Kd.R_drew HR7.out)
                have HS8 := Aside0.mk (HS7.out.step (below_drew1 (Below.refl w7.heap.size w7)))
                have HB8 : Aside0 (Below w4.heap.size w4 w7.drew) := ⟨below_drew HB7.out⟩
                clear HR7 HS7 HB7 HX7 HC7
                generalize w7.drew = w8 at HR8 HS8 HB8 hHeld ⊢
                refine pure_ (i := 0) (N := some 125) (v := ?_) (a' := ?_) #[tt,ff,ff,ff,ff,ff,ff,ff,ff,ff,ff,ff,ff,ff,ff,ff,ff,ff,ff,ff,ff,ff,ff,ff,ff,ff,ff,ff,ff,ff,ff,ff] rfl rfl (any_of HT_.out (by kernel_rfl)) (fun _ _ _ h => h) (Or.inl ⟨by rfl, ?_⟩) ?_ ?_
                rotate_left; exact slv; rotate_left; exact sla
                refine pure_ (i := 1) (N := some 126) (v := ?_) (a' := ?_) #[tt,tt,ff,ff,ff,ff,ff,ff,ff,ff,ff,ff,ff,ff,ff,ff,ff,ff,ff,ff,ff,ff,ff,ff,ff,ff,ff,ff,ff,ff,ff,ff] rfl rfl (any_of HT_.out (by kernel_rfl)) (fun _ _ _ h => h) (Or.inl ⟨by rfl, ?_⟩) ?_ ?_
                rotate_left; exact slv; rotate_left; exact sla
                refine pure_ (i := 3) (N := some 128) (v := ?_) (a' := ?_) #[tt,tt,ff,tt,ff,ff,ff,ff,ff,ff,ff,ff,ff,ff,ff,ff,ff,ff,ff,ff,ff,ff,ff,ff,ff,ff,ff,ff,ff,ff,ff,ff] rfl rfl (any_of HT_.out (by kernel_rfl)) (fun _ _ _ h => h) (Or.inl ⟨by rfl, ?_⟩) ?_ ?_
                rotate_left; exact slv; rotate_left; exact sla
                refine pure_ (i := 4) (N := some 129) (v := ?_) (a' := ?_) #[tt,tt,ff,tt,tt,ff,ff,ff,ff,ff,ff,ff,ff,ff,ff,ff,ff,ff,ff,ff,ff,ff,ff,ff,ff,ff,ff,ff,ff,ff,ff,ff] rfl rfl (any_of HT_.out (by kernel_rfl)) (fun _ _ _ h => h) (Or.inl ⟨by rfl, ?_⟩) ?_ ?_
                rotate_left; exact slv; rotate_left; exact sla
                refine take_ (i := 2) (N := some 127) (v := ?_) (a' := ?_) #[tt,tt,tt,tt,tt,ff,ff,ff,ff,ff,ff,ff,ff,ff,ff,ff,ff,ff,ff,ff,ff,ff,ff,ff,ff,ff,ff,ff,ff,ff,ff,ff] rfl rfl (take_ofW HT_.out HW_.out (by kernel_rfl)) (fun _ _ _ h => h) (Or.inl ⟨by rfl, ?_⟩) hHeld ?_ ?_
                rotate_left; exact slt5; rotate_left; exact sla
                refine take_ (i := 5) (N := some 130) (v := ?_) (a' := ?_) #[tt,tt,tt,tt,tt,tt,ff,ff,ff,ff,ff,ff,ff,ff,ff,ff,ff,ff,ff,ff,ff,ff,ff,ff,ff,ff,ff,ff,ff,ff,ff,ff] rfl rfl (take_ofW HT_.out HW_.out (by kernel_rfl)) (fun _ _ _ h => h) (Or.inl ⟨by rfl, ?_⟩) hHeld ?_ ?_
                rotate_left; exact slt5; rotate_left; exact sla
                refine pure_ (i := 6) (N := some 131) (v := ?_) (a' := ?_) #[tt,tt,tt,tt,tt,tt,tt,ff,ff,ff,ff,ff,ff,ff,ff,ff,ff,ff,ff,ff,ff,ff,ff,ff,ff,ff,ff,ff,ff,ff,ff,ff] rfl rfl (any_of HT_.out (by kernel_rfl)) (fun _ _ _ h => h) (Or.inl ⟨by rfl, ?_⟩) ?_ ?_
                rotate_left; exact slv; rotate_left; exact sla
                refine take_ (i := 7) (N := some 132) (v := ?_) (a' := ?_) #[tt,tt,tt,tt,tt,tt,tt,tt,ff,ff,ff,ff,ff,ff,ff,ff,ff,ff,ff,ff,ff,ff,ff,ff,ff,ff,ff,ff,ff,ff,ff,ff] rfl rfl (take_ofW HT_.out HW_.out (by kernel_rfl)) (fun _ _ _ h => h) (Or.inl ⟨by rfl, ?_⟩) hHeld ?_ ?_
                rotate_left; exact slt5; rotate_left; exact sla
                refine pure_ (i := 8) (N := some 133) (v := ?_) (a' := ?_) #[tt,tt,tt,tt,tt,tt,tt,tt,tt,ff,ff,ff,ff,ff,ff,ff,ff,ff,ff,ff,ff,ff,ff,ff,ff,ff,ff,ff,ff,ff,ff,ff] rfl rfl (any_of HT_.out (by kernel_rfl)) (fun _ _ _ h => h) (Or.inl ⟨by rfl, ?_⟩) ?_ ?_
                rotate_left; exact slv; rotate_left; exact sla
                refine pure_ (i := 9) (N := some 134) (v := undef) (a' := ?_) #[tt,tt,tt,tt,tt,tt,tt,tt,tt,tt,ff,ff,ff,ff,ff,ff,ff,ff,ff,ff,ff,ff,ff,ff,ff,ff,ff,ff,ff,ff,ff,ff] rfl rfl (any_of HT_.out (by kernel_rfl)) (fun _ _ _ h => h) (Or.inr ⟨by rfl, rfl⟩) ?_ ?_
                rotate_left
                · exact sla
                refine pure_ (i := 10) (N := some 135) (v := undef) (a' := ?_) #[tt,tt,tt,tt,tt,tt,tt,tt,tt,tt,tt,ff,ff,ff,ff,ff,ff,ff,ff,ff,ff,ff,ff,ff,ff,ff,ff,ff,ff,ff,ff,ff] rfl rfl (any_of HT_.out (by kernel_rfl)) (fun _ _ _ h => h) (Or.inr ⟨by rfl, rfl⟩) ?_ ?_
                rotate_left
                · exact sla
                refine pure_ (i := 11) (N := some 136) (v := undef) (a' := ?_) #[tt,tt,tt,tt,tt,tt,tt,tt,tt,tt,tt,tt,ff,ff,ff,ff,ff,ff,ff,ff,ff,ff,ff,ff,ff,ff,ff,ff,ff,ff,ff,ff] rfl rfl (any_of HT_.out (by kernel_rfl)) (fun _ _ _ h => h) (Or.inr ⟨by rfl, rfl⟩) ?_ ?_
                rotate_left
                · exact sla
                refine pure_ (i := 12) (N := some 137) (v := undef) (a' := ?_) #[tt,tt,tt,tt,tt,tt,tt,tt,tt,tt,tt,tt,tt,ff,ff,ff,ff,ff,ff,ff,ff,ff,ff,ff,ff,ff,ff,ff,ff,ff,ff,ff] rfl rfl (any_of HT_.out (by kernel_rfl)) (fun _ _ _ h => h) (Or.inr ⟨by rfl, rfl⟩) ?_ ?_
                rotate_left
                · exact sla
                refine pure_ (i := 13) (N := some 138) (v := undef) (a' := ?_) #[tt,tt,tt,tt,tt,tt,tt,tt,tt,tt,tt,tt,tt,tt,ff,ff,ff,ff,ff,ff,ff,ff,ff,ff,ff,ff,ff,ff,ff,ff,ff,ff] rfl rfl (any_of HT_.out (by kernel_rfl)) (fun _ _ _ h => h) (Or.inr ⟨by rfl, rfl⟩) ?_ ?_
                rotate_left
                · exact sla
                refine pure_ (i := 14) (N := some 139) (v := undef) (a' := ?_) #[tt,tt,tt,tt,tt,tt,tt,tt,tt,tt,tt,tt,tt,tt,tt,ff,ff,ff,ff,ff,ff,ff,ff,ff,ff,ff,ff,ff,ff,ff,ff,ff] rfl rfl (any_of HT_.out (by kernel_rfl)) (fun _ _ _ h => h) (Or.inr ⟨by rfl, rfl⟩) ?_ ?_
                rotate_left
                · exact sla
                refine pure_ (i := 15) (N := some 140) (v := undef) (a' := ?_) #[tt,tt,tt,tt,tt,tt,tt,tt,tt,tt,tt,tt,tt,tt,tt,tt,ff,ff,ff,ff,ff,ff,ff,ff,ff,ff,ff,ff,ff,ff,ff,ff] rfl rfl (any_of HT_.out (by kernel_rfl)) (fun _ _ _ h => h) (Or.inr ⟨by rfl, rfl⟩) ?_ ?_
                rotate_left
                · exact sla
                refine pure_ (i := 16) (N := some 141) (v := undef) (a' := ?_) #[tt,tt,tt,tt,tt,tt,tt,tt,tt,tt,tt,tt,tt,tt,tt,tt,tt,ff,ff,ff,ff,ff,ff,ff,ff,ff,ff,ff,ff,ff,ff,ff] rfl rfl (any_of HT_.out (by kernel_rfl)) (fun _ _ _ h => h) (Or.inr ⟨by rfl, rfl⟩) ?_ ?_
                rotate_left
                · exact sla
                refine pure_ (i := 17) (N := some 142) (v := undef) (a' := ?_) #[tt,tt,tt,tt,tt,tt,tt,tt,tt,tt,tt,tt,tt,tt,tt,tt,tt,tt,ff,ff,ff,ff,ff,ff,ff,ff,ff,ff,ff,ff,ff,ff] rfl rfl (any_of HT_.out (by kernel_rfl)) (fun _ _ _ h => h) (Or.inr ⟨by rfl, rfl⟩) ?_ ?_
                rotate_left
                · exact sla
                refine pure_ (i := 18) (N := some 143) (v := undef) (a' := ?_) #[tt,tt,tt,tt,tt,tt,tt,tt,tt,tt,tt,tt,tt,tt,tt,tt,tt,tt,tt,ff,ff,ff,ff,ff,ff,ff,ff,ff,ff,ff,ff,ff] rfl rfl (any_of HT_.out (by kernel_rfl)) (fun _ _ _ h => h) (Or.inr ⟨by rfl, rfl⟩) ?_ ?_
                rotate_left
                · exact sla
                refine pure_ (i := 19) (N := some 144) (v := undef) (a' := ?_) #[tt,tt,tt,tt,tt,tt,tt,tt,tt,tt,tt,tt,tt,tt,tt,tt,tt,tt,tt,tt,ff,ff,ff,ff,ff,ff,ff,ff,ff,ff,ff,ff] rfl rfl (any_of HT_.out (by kernel_rfl)) (fun _ _ _ h => h) (Or.inr ⟨by rfl, rfl⟩) ?_ ?_
                rotate_left
                · exact sla
                refine pure_ (i := 20) (N := some 145) (v := undef) (a' := ?_) #[tt,tt,tt,tt,tt,tt,tt,tt,tt,tt,tt,tt,tt,tt,tt,tt,tt,tt,tt,tt,tt,ff,ff,ff,ff,ff,ff,ff,ff,ff,ff,ff] rfl rfl (any_of HT_.out (by kernel_rfl)) (fun _ _ _ h => h) (Or.inr ⟨by rfl, rfl⟩) ?_ ?_
                rotate_left
                · exact sla
                refine pure_ (i := 21) (N := some 146) (v := undef) (a' := ?_) #[tt,tt,tt,tt,tt,tt,tt,tt,tt,tt,tt,tt,tt,tt,tt,tt,tt,tt,tt,tt,tt,tt,ff,ff,ff,ff,ff,ff,ff,ff,ff,ff] rfl rfl (any_of HT_.out (by kernel_rfl)) (fun _ _ _ h => h) (Or.inr ⟨by rfl, rfl⟩) ?_ ?_
                rotate_left
                · exact sla
                refine pure_ (i := 22) (N := some 147) (v := undef) (a' := ?_) #[tt,tt,tt,tt,tt,tt,tt,tt,tt,tt,tt,tt,tt,tt,tt,tt,tt,tt,tt,tt,tt,tt,tt,ff,ff,ff,ff,ff,ff,ff,ff,ff] rfl rfl (any_of HT_.out (by kernel_rfl)) (fun _ _ _ h => h) (Or.inr ⟨by rfl, rfl⟩) ?_ ?_
                rotate_left
                · exact sla
                refine pure_ (i := 23) (N := some 148) (v := undef) (a' := ?_) #[tt,tt,tt,tt,tt,tt,tt,tt,tt,tt,tt,tt,tt,tt,tt,tt,tt,tt,tt,tt,tt,tt,tt,tt,ff,ff,ff,ff,ff,ff,ff,ff] rfl rfl (any_of HT_.out (by kernel_rfl)) (fun _ _ _ h => h) (Or.inr ⟨by rfl, rfl⟩) ?_ ?_
                rotate_left
                · exact sla
                refine pure_ (i := 24) (N := some 149) (v := undef) (a' := ?_) #[tt,tt,tt,tt,tt,tt,tt,tt,tt,tt,tt,tt,tt,tt,tt,tt,tt,tt,tt,tt,tt,tt,tt,tt,tt,ff,ff,ff,ff,ff,ff,ff] rfl rfl (any_of HT_.out (by kernel_rfl)) (fun _ _ _ h => h) (Or.inr ⟨by rfl, rfl⟩) ?_ ?_
                rotate_left
                · exact sla
                refine pure_ (i := 25) (N := some 150) (v := undef) (a' := ?_) #[tt,tt,tt,tt,tt,tt,tt,tt,tt,tt,tt,tt,tt,tt,tt,tt,tt,tt,tt,tt,tt,tt,tt,tt,tt,tt,ff,ff,ff,ff,ff,ff] rfl rfl (any_of HT_.out (by kernel_rfl)) (fun _ _ _ h => h) (Or.inr ⟨by rfl, rfl⟩) ?_ ?_
                rotate_left
                · exact sla
                refine pure_ (i := 26) (N := some 151) (v := undef) (a' := ?_) #[tt,tt,tt,tt,tt,tt,tt,tt,tt,tt,tt,tt,tt,tt,tt,tt,tt,tt,tt,tt,tt,tt,tt,tt,tt,tt,tt,ff,ff,ff,ff,ff] rfl rfl (any_of HT_.out (by kernel_rfl)) (fun _ _ _ h => h) (Or.inr ⟨by rfl, rfl⟩) ?_ ?_
                rotate_left
                · exact sla
                refine pure_ (i := 27) (N := some 152) (v := undef) (a' := ?_) #[tt,tt,tt,tt,tt,tt,tt,tt,tt,tt,tt,tt,tt,tt,tt,tt,tt,tt,tt,tt,tt,tt,tt,tt,tt,tt,tt,tt,ff,ff,ff,ff] rfl rfl (any_of HT_.out (by kernel_rfl)) (fun _ _ _ h => h) (Or.inr ⟨by rfl, rfl⟩) ?_ ?_
                rotate_left
                · exact sla
                refine pure_ (i := 28) (N := some 153) (v := undef) (a' := ?_) #[tt,tt,tt,tt,tt,tt,tt,tt,tt,tt,tt,tt,tt,tt,tt,tt,tt,tt,tt,tt,tt,tt,tt,tt,tt,tt,tt,tt,tt,ff,ff,ff] rfl rfl (any_of HT_.out (by kernel_rfl)) (fun _ _ _ h => h) (Or.inr ⟨by rfl, rfl⟩) ?_ ?_
                rotate_left
                · exact sla
                refine pure_ (i := 29) (N := some 154) (v := ?_) (a' := ?_) #[tt,tt,tt,tt,tt,tt,tt,tt,tt,tt,tt,tt,tt,tt,tt,tt,tt,tt,tt,tt,tt,tt,tt,tt,tt,tt,tt,tt,tt,tt,ff,ff] rfl rfl (any_of HT_.out (by kernel_rfl)) (fun _ _ _ h => h) (Or.inl ⟨by rfl, ?_⟩) ?_ ?_
                rotate_left; exact slv; rotate_left; exact sla
                refine pure_ (i := 30) (N := some 155) (v := ?_) (a' := ?_) #[tt,tt,tt,tt,tt,tt,tt,tt,tt,tt,tt,tt,tt,tt,tt,tt,tt,tt,tt,tt,tt,tt,tt,tt,tt,tt,tt,tt,tt,tt,tt,ff] rfl rfl (any_of HT_.out (by kernel_rfl)) (fun _ _ _ h => h) (Or.inl ⟨by rfl, ?_⟩) ?_ ?_
                rotate_left; exact slv; rotate_left; exact sla
                refine last_ (i := 31) (N := none) #[tt,tt,tt,tt,tt,tt,tt,tt,tt,tt,tt,tt,tt,tt,tt,tt,tt,tt,tt,tt,tt,tt,tt,tt,tt,tt,tt,tt,tt,tt,tt,tt] rfl rfl (one_of HT_.out (by kernel_rfl)) (by decide) (fun K hK => ?_)
                have hc1 := (came_at HR8.out t ht0 htn).1
                have hf1 := (came_at HR8.out t ht0 htn).2
                refine skip_ (w1 := (w8.setCell ⟨gc, t.toNat, none⟩ (.bool true))) (by rfl) rfl ?_ ?_
                · first | (go_simp; done) | (go_simp; rfl)
                clear hc1 hf1
                have HR9 := Aside0.mk (came_put HR8.out t true)
                have HCG : Chg (fun k => k = gc) w8 (w8.setCell ⟨gc, t.toNat, none⟩ (.bool true)) := Chg.setCell (F := (fun k => k = gc)) (Chg.refl _ w8) (p := ⟨gc, t.toNat, none⟩) (Or.inl rfl) _
                have HS9 := Aside0.mk (HS8.out.chg HCG (F' := fun k => k = gc) (fun k hk => Or.inl hk))
                have HB9 : Aside0 (Below w4.heap.size w4 (w8.setCell ⟨gc, t.toNat, none⟩ (.bool true))) := ⟨HB8.out.setCell HGC.out _⟩
                clear HR8 HS8 HB8 HCG
                generalize w8.setCell ⟨gc, t.toNat, none⟩ (.bool true) = w9 at HR9 HS9 HB9 ⊢
                refine hK.out _ _ ?_
                clear hK K
                refine done_ (done_of HT_.out (by kernel_rfl)) ?_
                try clear hHeld
                try clear hw1
                have hwk := HWK.out
                go_wp2_with (first | fail | ((with_reducible refine gate_upon ?_); go_simp))
                go_roundg gk3
                case measure => first | exact Nat.lt_succ_self _ | omega
                case rel => exact ⟨k + 1, b.set t.toNat true, rfl, by first | rfl | (simp; done) | (rw [hwk]; done) | (rw [hwk]; rfl), HK1, HR9, HSQ, HS9, HB9⟩
              | false =>
                by_cases a2 : dt = di + co
                · have c4 : (dt == di + co) = true := by rw [beq_iff_eq]; exact a2
                  have c5 : decide (dt = di + co) = true := decide_eq_true a2
                  have HSQ : Aside0 (CameI n (outOf out) s d i (k + 1) (b.set t.toNat true)) := ⟨HST.out true (by rw [c1, c5]; rfl)⟩
                  clear a2
                  refine start_ (n := 32) (S := fun w' => w'.cell? ⟨gx, 1, none⟩ = some (.int .i64 t) ∧ w'.cell? ⟨gx, 2, none⟩ = some (.int .i64 co) ∧ w'.cell? ⟨gw, i, none⟩ = some (.int .i64 di) ∧ w'.cell? ⟨gw, t.toNat, none⟩ = some (.int .i64 dt) ∧ w'.cell? ⟨gc, t.toNat, none⟩ = some (.bool false)) (ds := [31]) #[ff,ff,ff,ff,ff,ff,ff,ff,ff,ff,ff,ff,ff,ff,ff,ff,ff,ff,ff,ff,ff,ff,ff,ff,ff,ff,ff,ff,ff,ff,ff,ff] (by kernel_rfl) rfl rfl ⟨(blk_cell HX7.out 1).trans rfl, (blk_cell HX7.out 2).trans rfl, (HDI.out _ HB7.out).1, (HDI.out _ HB7.out).2, HC7.out⟩ (fun hHeld => ?_)
                  refine with_tabW edges.tab21 edges.bits21 (fun HT_ HW_ => ?_)
                  have HR8 := Aside0.mk (Kd.R_drew HR7.out)
                  have HS8 := Aside0.mk (HS7.out.step (below_drew1 (Below.refl w7.heap.size w7)))
                  have HB8 : Aside0 (Below w4.heap.size w4 w7.drew) := ⟨below_drew HB7.out⟩
                  clear HR7 HS7 HB7 HX7 HC7
                  generalize w7.drew = w8 at HR8 HS8 HB8 hHeld ⊢
                  refine pure_ (i := 0) (N := some 125) (v := ?_) (a' := ?_) #[tt,ff,ff,ff,ff,ff,ff,ff,ff,ff,ff,ff,ff,ff,ff,ff,ff,ff,ff,ff,ff,ff,ff,ff,ff,ff,ff,ff,ff,ff,ff,ff] rfl rfl (any_of HT_.out (by kernel_rfl)) (fun _ _ _ h => h) (Or.inl ⟨by rfl, ?_⟩) ?_ ?_
                  rotate_left; exact slv; rotate_left; exact sla
                  refine pure_ (i := 1) (N := some 126) (v := ?_) (a' := ?_) #[tt,tt,ff,ff,ff,ff,ff,ff,ff,ff,ff,ff,ff,ff,ff,ff,ff,ff,ff,ff,ff,ff,ff,ff,ff,ff,ff,ff,ff,ff,ff,ff] rfl rfl (any_of HT_.out (by kernel_rfl)) (fun _ _ _ h => h) (Or.inl ⟨by rfl, ?_⟩) ?_ ?_
                  rotate_left; exact slv; rotate_left; exact sla
                  refine pure_ (i := 3) (N := some 128) (v := ?_) (a' := ?_) #[tt,tt,ff,tt,ff,ff,ff,ff,ff,ff,ff,ff,ff,ff,ff,ff,ff,ff,ff,ff,ff,ff,ff,ff,ff,ff,ff,ff,ff,ff,ff,ff] rfl rfl (any_of HT_.out (by kernel_rfl)) (fun _ _ _ h => h) (Or.inl ⟨by rfl, ?_⟩) ?_ ?_
                  rotate_left; exact slv; rotate_left; exact sla
                  refine pure_ (i := 4) (N := some 129) (v := ?_) (a' := ?_) #[tt,tt,ff,tt,tt,ff,ff,ff,ff,ff,ff,ff,ff,ff,ff,ff,ff,ff,ff,ff,ff,ff,ff,ff,ff,ff,ff,ff,ff,ff,ff,ff] rfl rfl (any_of HT_.out (by kernel_rfl)) (fun _ _ _ h => h) (Or.inl ⟨by rfl, ?_⟩) ?_ ?_
                  rotate_left; exact slv; rotate_left; exact sla
                  refine take_ (i := 2) (N := some 127) (v := ?_) (a' := ?_) #[tt,tt,tt,tt,tt,ff,ff,ff,ff,ff,ff,ff,ff,ff,ff,ff,ff,ff,ff,ff,ff,ff,ff,ff,ff,ff,ff,ff,ff,ff,ff,ff] rfl rfl (take_ofW HT_.out HW_.out (by kernel_rfl)) (fun _ _ _ h => h) (Or.inl ⟨by rfl, ?_⟩) hHeld ?_ ?_
                  rotate_left; exact slt5; rotate_left; exact sla
                  refine take_ (i := 5) (N := some 130) (v := ?_) (a' := ?_) #[tt,tt,tt,tt,tt,tt,ff,ff,ff,ff,ff,ff,ff,ff,ff,ff,ff,ff,ff,ff,ff,ff,ff,ff,ff,ff,ff,ff,ff,ff,ff,ff] rfl rfl (take_ofW HT_.out HW_.out (by kernel_rfl)) (fun _ _ _ h => h) (Or.inl ⟨by rfl, ?_⟩) hHeld ?_ ?_
                  rotate_left; exact slt5; rotate_left; exact sla
                  refine pure_ (i := 6) (N := some 131) (v := ?_) (a' := ?_) #[tt,tt,tt,tt,tt,tt,tt,ff,ff,ff,ff,ff,ff,ff,ff,ff,ff,ff,ff,ff,ff,ff,ff,ff,ff,ff,ff,ff,ff,ff,ff,ff] rfl rfl (any_of HT_.out (by kernel_rfl)) (fun _ _ _ h => h) (Or.inl ⟨by rfl, ?_⟩) ?_ ?_
                  rotate_left; exact slv; rotate_left; exact sla
                  refine take_ (i := 7) (N := some 132) (v := ?_) (a' := ?_) #[tt,tt,tt,tt,tt,tt,tt,tt,ff,ff,ff,ff,ff,ff,ff,ff,ff,ff,ff,ff,ff,ff,ff,ff,ff,ff,ff,ff,ff,ff,ff,ff] rfl rfl (take_ofW HT_.out HW_.out (by kernel_rfl)) (fun _ _ _ h => h) (Or.inl ⟨by rfl, ?_⟩) hHeld ?_ ?_
                  rotate_left; exact slt5; rotate_left; exact sla
                  refine pure_ (i := 8) (N := some 133) (v := ?_) (a' := ?_) #[tt,tt,tt,tt,tt,tt,tt,tt,tt,ff,ff,ff,ff,ff,ff,ff,ff,ff,ff,ff,ff,ff,ff,ff,ff,ff,ff,ff,ff,ff,ff,ff] rfl rfl (any_of HT_.out (by kernel_rfl)) (fun _ _ _ h => h) (Or.inl ⟨by rfl, ?_⟩) ?_ ?_
                  rotate_left; exact slv; rotate_left; exact sla
                  refine pure_ (i := 9) (N := some 134) (v := ?_) (a' := ?_) #[tt,tt,tt,tt,tt,tt,tt,tt,tt,tt,ff,ff,ff,ff,ff,ff,ff,ff,ff,ff,ff,ff,ff,ff,ff,ff,ff,ff,ff,ff,ff,ff] rfl rfl (any_of HT_.out (by kernel_rfl)) (fun _ _ _ h => h) (Or.inl ⟨by rfl, ?_⟩) ?_ ?_
                  rotate_left; exact slv; rotate_left; exact sla
                  refine pure_ (i := 10) (N := some 135) (v := ?_) (a' := ?_) #[tt,tt,tt,tt,tt,tt,tt,tt,tt,tt,tt,ff,ff,ff,ff,ff,ff,ff,ff,ff,ff,ff,ff,ff,ff,ff,ff,ff,ff,ff,ff,ff] rfl rfl (any_of HT_.out (by kernel_rfl)) (fun _ _ _ h => h) (Or.inl ⟨by rfl, ?_⟩) ?_ ?_
                  rotate_left; exact slv; rotate_left; exact sla
                  refine pure_ (i := 11) (N := some 136) (v := ?_) (a' := ?_) #[tt,tt,tt,tt,tt,tt,tt,tt,tt,tt,tt,tt,ff,ff,ff,ff,ff,ff,ff,ff,ff,ff,ff,ff,ff,ff,ff,ff,ff,ff,ff,ff] rfl rfl (any_of HT_.out (by kernel_rfl)) (fun _ _ _ h => h) (Or.inl ⟨by rfl, ?_⟩) ?_ ?_
                  rotate_left; exact slv; rotate_left; exact sla
                  refine take_ (i := 12) (N := some 137) (v := ?_) (a' := ?_) #[tt,tt,tt,tt,tt,tt,tt,tt,tt,tt,tt,tt,tt,ff,ff,ff,ff,ff,ff,ff,ff,ff,ff,ff,ff,ff,ff,ff,ff,ff,ff,ff] rfl rfl (take_ofW HT_.out HW_.out (by kernel_rfl)) (fun _ _ _ h => h) (Or.inl ⟨by rfl, ?_⟩) hHeld ?_ ?_
                  rotate_left; exact slt5; rotate_left; exact sla
                  refine pure_ (i := 13) (N := some 138) (v := ?_) (a' := ?_) #[tt,tt,tt,tt,tt,tt,tt,tt,tt,tt,tt,tt,tt,tt,ff,ff,ff,ff,ff,ff,ff,ff,ff,ff,ff,ff,ff,ff,ff,ff,ff,ff] rfl rfl (any_of HT_.out (by kernel_rfl)) (fun _ _ _ h => h) (Or.inl ⟨by rfl, ?_⟩) ?_ ?_
                  rotate_left; exact slv; rotate_left; exact sla
                  refine pure_ (i := 14) (N := some 139) (v := ?_) (a' := ?_) #[tt,tt,tt,tt,tt,tt,tt,tt,tt,tt,tt,tt,tt,tt,tt,ff,ff,ff,ff,ff,ff,ff,ff,ff,ff,ff,ff,ff,ff,ff,ff,ff] rfl rfl (any_of HT_.out (by kernel_rfl)) (fun _ _ _ h => h) (Or.inl ⟨by rfl, ?_⟩) ?_ ?_
                  rotate_left; exact slv; rotate_left; exact sla
                  refine pure_ (i := 15) (N := some 140) (v := ?_) (a' := ?_) #[tt,tt,tt,tt,tt,tt,tt,tt,tt,tt,tt,tt,tt,tt,tt,tt,ff,ff,ff,ff,ff,ff,ff,ff,ff,ff,ff,ff,ff,ff,ff,ff] rfl rfl (any_of HT_.out (by kernel_rfl)) (fun _ _ _ h => h) (Or.inl ⟨by rfl, ?_⟩) ?_ ?_
                  rotate_left; exact slv; rotate_left; exact sla
                  refine pure_ (i := 16) (N := some 141) (v := ?_) (a' := ?_) #[tt,tt,tt,tt,tt,tt,tt,tt,tt,tt,tt,tt,tt,tt,tt,tt,tt,ff,ff,ff,ff,ff,ff,ff,ff,ff,ff,ff,ff,ff,ff,ff] rfl rfl (any_of HT_.out (by kernel_rfl)) (fun _ _ _ h => h) (Or.inl ⟨by rfl, ?_⟩) ?_ ?_
                  rotate_left; exact slv; rotate_left; exact sla
                  refine pure_ (i := 20) (N := some 145) (v := ?_) (a' := ?_) #[tt,tt,tt,tt,tt,tt,tt,tt,tt,tt,tt,tt,tt,tt,tt,tt,tt,ff,ff,ff,tt,ff,ff,ff,ff,ff,ff,ff,ff,ff,ff,ff] rfl rfl (any_of HT_.out (by kernel_rfl)) (fun _ _ _ h => h) (Or.inl ⟨by rfl, ?_⟩) ?_ ?_
                  rotate_left; exact slv; rotate_left; exact sla
                  refine pure_ (i := 21) (N := some 146) (v := ?_) (a' := ?_) #[tt,tt,tt,tt,tt,tt,tt,tt,tt,tt,tt,tt,tt,tt,tt,tt,tt,ff,ff,ff,tt,tt,ff,ff,ff,ff,ff,ff,ff,ff,ff,ff] rfl rfl (any_of HT_.out (by kernel_rfl)) (fun _ _ _ h => h) (Or.inl ⟨by rfl, ?_⟩) ?_ ?_
                  rotate_left; exact slv; rotate_left; exact sla
                  refine pure_ (i := 22) (N := some 147) (v := ?_) (a' := ?_) #[tt,tt,tt,tt,tt,tt,tt,tt,tt,tt,tt,tt,tt,tt,tt,tt,tt,ff,ff,ff,tt,tt,tt,ff,ff,ff,ff,ff,ff,ff,ff,ff] rfl rfl (any_of HT_.out (by kernel_rfl)) (fun _ _ _ h => h) (Or.inl ⟨by rfl, ?_⟩) ?_ ?_
                  rotate_left; exact slv; rotate_left; exact sla
                  refine pure_ (i := 24) (N := some 149) (v := ?_) (a' := ?_) #[tt,tt,tt,tt,tt,tt,tt,tt,tt,tt,tt,tt,tt,tt,tt,tt,tt,ff,ff,ff,tt,tt,tt,ff,tt,ff,ff,ff,ff,ff,ff,ff] rfl rfl (any_of HT_.out (by kernel_rfl)) (fun _ _ _ h => h) (Or.inl ⟨by rfl, ?_⟩) ?_ ?_
                  rotate_left; exact slv; rotate_left; exact sla
                  refine take_ (i := 17) (N := some 142) (v := ?_) (a' := ?_) #[tt,tt,tt,tt,tt,tt,tt,tt,tt,tt,tt,tt,tt,tt,tt,tt,tt,tt,ff,ff,tt,tt,tt,ff,tt,ff,ff,ff,ff,ff,ff,ff] rfl rfl (take_ofW HT_.out HW_.out (by kernel_rfl)) (fun _ _ _ h => h) (Or.inl ⟨by rfl, ?_⟩) hHeld ?_ ?_
                  rotate_left; exact slt5; rotate_left; exact sla
                  refine pure_ (i := 18) (N := some 143) (v := ?_) (a' := ?_) #[tt,tt,tt,tt,tt,tt,tt,tt,tt,tt,tt,tt,tt,tt,tt,tt,tt,tt,tt,ff,tt,tt,tt,ff,tt,ff,ff,ff,ff,ff,ff,ff] rfl rfl (any_of HT_.out (by kernel_rfl)) (fun _ _ _ h => h) (Or.inl ⟨by rfl, ?_⟩) ?_ ?_
                  rotate_left; exact slv; rotate_left; exact sla
                  refine take_ (i := 19) (N := some 144) (v := ?_) (a' := ?_) #[tt,tt,tt,tt,tt,tt,tt,tt,tt,tt,tt,tt,tt,tt,tt,tt,tt,tt,tt,tt,tt,tt,tt,ff,tt,ff,ff,ff,ff,ff,ff,ff] rfl rfl (take_ofW HT_.out HW_.out (by kernel_rfl)) (fun _ _ _ h => h) (Or.inl ⟨by rfl, ?_⟩) hHeld ?_ ?_
                  rotate_left; exact slt5; rotate_left; exact sla
                  refine take_ (i := 23) (N := some 148) (v := ?_) (a' := ?_) #[tt,tt,tt,tt,tt,tt,tt,tt,tt,tt,tt,tt,tt,tt,tt,tt,tt,tt,tt,tt,tt,tt,tt,tt,tt,ff,ff,ff,ff,ff,ff,ff] rfl rfl (take_ofW HT_.out HW_.out (by kernel_rfl)) (fun _ _ _ h => h) (Or.inl ⟨by rfl, ?_⟩) hHeld ?_ ?_
                  rotate_left; exact slt5; rotate_left; exact sla
                  refine take_ (i := 25) (N := some 150) (v := ?_) (a' := ?_) #[tt,tt,tt,tt,tt,tt,tt,tt,tt,tt,tt,tt,tt,tt,tt,tt,tt,tt,tt,tt,tt,tt,tt,tt,tt,tt,ff,ff,ff,ff,ff,ff] rfl rfl (take_ofW HT_.out HW_.out (by kernel_rfl)) (fun _ _ _ h => h) (Or.inl ⟨by rfl, ?_⟩) hHeld ?_ ?_
                  rotate_left; exact slt5; rotate_left; exact sla
                  refine pure_ (i := 26) (N := some 151) (v := ?_) (a' := ?_) #[tt,tt,tt,tt,tt,tt,tt,tt,tt,tt,tt,tt,tt,tt,tt,tt,tt,tt,tt,tt,tt,tt,tt,tt,tt,tt,tt,ff,ff,ff,ff,ff] rfl rfl (any_of HT_.out (by kernel_rfl)) (fun _ _ _ h => h) (Or.inl ⟨by rfl, ?_⟩) ?_ ?_
                  rotate_left; exact slv; rotate_left; exact sla
                  refine pure_ (i := 27) (N := some 152) (v := ?_) (a' := ?_) #[tt,tt,tt,tt,tt,tt,tt,tt,tt,tt,tt,tt,tt,tt,tt,tt,tt,tt,tt,tt,tt,tt,tt,tt,tt,tt,tt,tt,ff,ff,ff,ff] rfl rfl (any_of HT_.out (by kernel_rfl)) (fun _ _ _ h => h) (Or.inl ⟨by rfl, ?_⟩) ?_ ?_
                  rotate_left; exact slv; rotate_left; exact sla
                  refine pure_ (i := 28) (N := some 153) (v := ?_) (a' := ?_) #[tt,tt,tt,tt,tt,tt,tt,tt,tt,tt,tt,tt,tt,tt,tt,tt,tt,tt,tt,tt,tt,tt,tt,tt,tt,tt,tt,tt,tt,ff,ff,ff] rfl rfl (any_of HT_.out (by kernel_rfl)) (fun _ _ _ h => h) (Or.inl ⟨by rfl, ?_⟩) ?_ ?_
                  rotate_left; exact slv; rotate_left; exact sla
                  refine pure_ (i := 29) (N := some 154) (v := ?_) (a' := ?_) #[tt,tt,tt,tt,tt,tt,tt,tt,tt,tt,tt,tt,tt,tt,tt,tt,tt,tt,tt,tt,tt,tt,tt,tt,tt,tt,tt,tt,tt,tt,ff,ff] rfl rfl (any_of HT_.out (by kernel_rfl)) (fun _ _ _ h => h) (Or.inl ⟨by rfl, ?_⟩) ?_ ?_
                  rotate_left; exact slv; rotate_left; exact sla
                  refine pure_ (i := 30) (N := some 155) (v := ?_) (a' := ?_) #[tt,tt,tt,tt,tt,tt,tt,tt,tt,tt,tt,tt,tt,tt,tt,tt,tt,tt,tt,tt,tt,tt,tt,tt,tt,tt,tt,tt,tt,tt,tt,ff] rfl rfl (any_of HT_.out (by kernel_rfl)) (fun _ _ _ h => h) (Or.inl ⟨by rfl, ?_⟩) ?_ ?_
                  rotate_left; exact slv; rotate_left; exact sla
                  refine last_ (i := 31) (N := none) #[tt,tt,tt,tt,tt,tt,tt,tt,tt,tt,tt,tt,tt,tt,tt,tt,tt,tt,tt,tt,tt,tt,tt,tt,tt,tt,tt,tt,tt,tt,tt,tt] rfl rfl (one_of HT_.out (by kernel_rfl)) (by decide) (fun K hK => ?_)
                  have hc1 := (came_at HR8.out t ht0 htn).1
                  have hf1 := (came_at HR8.out t ht0 htn).2
                  refine skip_ (w1 := (w8.setCell ⟨gc, t.toNat, none⟩ (.bool true))) (by rfl) rfl ?_ ?_
                  · first | (go_simp; done) | (go_simp; rfl)
                  clear hc1 hf1
                  have HR9 := Aside0.mk (came_put HR8.out t true)
                  have HCG : Chg (fun k => k = gc) w8 (w8.setCell ⟨gc, t.toNat, none⟩ (.bool true)) := Chg.setCell (F := (fun k => k = gc)) (Chg.refl _ w8) (p := ⟨gc, t.toNat, none⟩) (Or.inl rfl) _
                  have HS9 := Aside0.mk (HS8.out.chg HCG (F' := fun k => k = gc) (fun k hk => Or.inl hk))
                  have HB9 : Aside0 (Below w4.heap.size w4 (w8.setCell ⟨gc, t.toNat, none⟩ (.bool true))) := ⟨HB8.out.setCell HGC.out _⟩
                  clear HR8 HS8 HB8 HCG
                  generalize w8.setCell ⟨gc, t.toNat, none⟩ (.bool true) = w9 at HR9 HS9 HB9 ⊢
                  refine hK.out _ _ ?_
                  clear hK K
                  refine done_ (done_of HT_.out (by kernel_rfl)) ?_
                  try clear hHeld
                  try clear hw1
                  have hwk := HWK.out
                  go_wp2_with (first | fail | ((with_reducible refine gate_upon ?_); go_simp))
                  go_roundg gk3
                  case measure => first | exact Nat.lt_succ_self _ | omega
                  case rel => exact ⟨k + 1, b.set t.toNat true, rfl, by first | rfl | (simp; done) | (rw [hwk]; done) | (rw [hwk]; rfl), HK1, HR9, HSQ, HS9, HB9⟩
                · have c4 : (dt == di + co) = false := by rw [beq_eq_false_iff_ne]; exact a2
                  have c5 : decide (dt = di + co) = false := decide_eq_false a2
                  have HSQ : Aside0 (CameI n (outOf out) s d i (k + 1) (b.set t.toNat false)) := ⟨HST.out false (by rw [c1, c5]; rfl)⟩
                  clear a2
                  refine start_ (n := 32) (S := fun w' => w'.cell? ⟨gx, 1, none⟩ = some (.int .i64 t) ∧ w'.cell? ⟨gx, 2, none⟩ = some (.int .i64 co) ∧ w'.cell? ⟨gw, i, none⟩ = some (.int .i64 di) ∧ w'.cell? ⟨gw, t.toNat, none⟩ = some (.int .i64 dt) ∧ w'.cell? ⟨gc, t.toNat, none⟩ = some (.bool false)) (ds := [31]) #[ff,ff,ff,ff,ff,ff,ff,ff,ff,ff,ff,ff,ff,ff,ff,ff,ff,ff,ff,ff,ff,ff,ff,ff,ff,ff,ff,ff,ff,ff,ff,ff] (by kernel_rfl) rfl rfl ⟨(blk_cell HX7.out 1).trans rfl, (blk_cell HX7.out 2).trans rfl, (HDI.out _ HB7.out).1, (HDI.out _ HB7.out).2, HC7.out⟩ (fun hHeld => ?_)
                  refine with_tabW edges.tab21 edges.bits21 (fun HT_ HW_ => ?_)
                  have HR8 := Aside0.mk (Kd.R_drew HR7.out)
                  have HS8 := Aside0.mk (HS7.out.step (below_drew1 (Below.refl w7.heap.size w7)))
                  have HB8 : Aside0 (Below w4.heap.size w4 w7.drew) := ⟨below_drew HB7.out⟩
                  clear HR7 HS7 HB7 HX7 HC7
                  generalize w7.drew = w8 at HR8 HS8 HB8 hHeld ⊢
                  refine pure_ (i := 0) (N := some 125) (v := ?_) (a' := ?_) #[tt,ff,ff,ff,ff,ff,ff,ff,ff,ff,ff,ff,ff,ff,ff,ff,ff,ff,ff,ff,ff,ff,ff,ff,ff,ff,ff,ff,ff,ff,ff,ff] rfl rfl (any_of HT_.out (by kernel_rfl)) (fun _ _ _ h => h) (Or.inl ⟨by rfl, ?_⟩) ?_ ?_
                  rotate_left; exact slv; rotate_left; exact sla
                  refine pure_ (i := 1) (N := some 126) (v := ?_) (a' := ?_) #[tt,tt,ff,ff,ff,ff,ff,ff,ff,ff,ff,ff,ff,ff,ff,ff,ff,ff,ff,ff,ff,ff,ff,ff,ff,ff,ff,ff,ff,ff,ff,ff] rfl rfl (any_of HT_.out (by kernel_rfl)) (fun _ _ _ h => h) (Or.inl ⟨by rfl, ?_⟩) ?_ ?_
                  rotate_left; exact slv; rotate_left; exact sla
                  refine pure_ (i := 3) (N := some 128) (v := ?_) (a' := ?_) #[tt,tt,ff,tt,ff,ff,ff,ff,ff,ff,ff,ff,ff,ff,ff,ff,ff,ff,ff,ff,ff,ff,ff,ff,ff,ff,ff,ff,ff,ff,ff,ff] rfl rfl (any_of HT_.out (by kernel_rfl)) (fun _ _ _ h => h) (Or.inl ⟨by rfl, ?_⟩) ?_ ?_
                  rotate_left; exact slv; rotate_left; exact sla
                  refine pure_ (i := 4) (N := some 129) (v := ?_) (a' := ?_) #[tt,tt,ff,tt,tt,ff,ff,ff,ff,ff,ff,ff,ff,ff,ff,ff,ff,ff,ff,ff,ff,ff,ff,ff,ff,ff,ff,ff,ff,ff,ff,ff] rfl rfl (any_of HT_.out (by kernel_rfl)) (fun _ _ _ h => h) (Or.inl ⟨by rfl, ?_⟩) ?_ ?_
                  rotate_left; exact slv; rotate_left; exact sla
                  refine take_ (i := 2) (N := some 127) (v := ?_) (a' := ?_) #[tt,tt,tt,tt,tt,ff,ff,ff,ff,ff,ff,ff,ff,ff,ff,ff,ff,ff,ff,ff,ff,ff,ff,ff,ff,ff,ff,ff,ff,ff,ff,ff] rfl rfl (take_ofW HT_.out HW_.out (by kernel_rfl)) (fun _ _ _ h => h) (Or.inl ⟨by rfl, ?_⟩) hHeld ?_ ?_
                  rotate_left; exact slt5; rotate_left; exact sla
                  refine take_ (i := 5) (N := some 130) (v := ?_) (a' := ?_) #[tt,tt,tt,tt,tt,tt,ff,ff,ff,ff,ff,ff,ff,ff,ff,ff,ff,ff,ff,ff,ff,ff,ff,ff,ff,ff,ff,ff,ff,ff,ff,ff] rfl rfl (take_ofW HT_.out HW_.out (by kernel_rfl)) (fun _ _ _ h => h) (Or.inl ⟨by rfl, ?_⟩) hHeld ?_ ?_
                  rotate_left; exact slt5; rotate_left; exact sla
                  refine pure_ (i := 6) (N := some 131) (v := ?_) (a' := ?_) #[tt,tt,tt,tt,tt,tt,tt,ff,ff,ff,ff,ff,ff,ff,ff,ff,ff,ff,ff,ff,ff,ff,ff,ff,ff,ff,ff,ff,ff,ff,ff,ff] rfl rfl (any_of HT_.out (by kernel_rfl)) (fun _ _ _ h => h) (Or.inl ⟨by rfl, ?_⟩) ?_ ?_
                  rotate_left; exact slv; rotate_left; exact sla
                  refine take_ (i := 7) (N := some 132) (v := ?_) (a' := ?_) #[tt,tt,tt,tt,tt,tt,tt,tt,ff,ff,ff,ff,ff,ff,ff,ff,ff,ff,ff,ff,ff,ff,ff,ff,ff,ff,ff,ff,ff,ff,ff,ff] rfl rfl (take_ofW HT_.out HW_.out (by kernel_rfl)) (fun _ _ _ h => h) (Or.inl ⟨by rfl, ?_⟩) hHeld ?_ ?_
                  rotate_left; exact slt5; rotate_left; exact sla
                  refine pure_ (i := 8) (N := some 133) (v := ?_) (a' := ?_) #[tt,tt,tt,tt,tt,tt,tt,tt,tt,ff,ff,ff,ff,ff,ff,ff,ff,ff,ff,ff,ff,ff,ff,ff,ff,ff,ff,ff,ff,ff,ff,ff] rfl rfl (any_of HT_.out (by kernel_rfl)) (fun _ _ _ h => h) (Or.inl ⟨by rfl, ?_⟩) ?_ ?_
                  rotate_left; exact slv; rotate_left; exact sla
                  refine pure_ (i := 9) (N := some 134) (v := ?_) (a' := ?_) #[tt,tt,tt,tt,tt,tt,tt,tt,tt,tt,ff,ff,ff,ff,ff,ff,ff,ff,ff,ff,ff,ff,ff,ff,ff,ff,ff,ff,ff,ff,ff,ff] rfl rfl (any_of HT_.out (by kernel_rfl)) (fun _ _ _ h => h) (Or.inl ⟨by rfl, ?_⟩) ?_ ?_
                  rotate_left; exact slv; rotate_left; exact sla
                  refine pure_ (i := 10) (N := some 135) (v := ?_) (a' := ?_) #[tt,tt,tt,tt,tt,tt,tt,tt,tt,tt,tt,ff,ff,ff,ff,ff,ff,ff,ff,ff,ff,ff,ff,ff,ff,ff,ff,ff,ff,ff,ff,ff] rfl rfl (any_of HT_.out (by kernel_rfl)) (fun _ _ _ h => h) (Or.inl ⟨by rfl, ?_⟩) ?_ ?_
                  rotate_left; exact slv; rotate_left; exact sla
                  refine pure_ (i := 11) (N := some 136) (v := ?_) (a' := ?_) #[tt,tt,tt,tt,tt,tt,tt,tt,tt,tt,tt,tt,ff,ff,ff,ff,ff,ff,ff,ff,ff,ff,ff,ff,ff,ff,ff,ff,ff,ff,ff,ff] rfl rfl (any_of HT_.out (by kernel_rfl)) (fun _ _ _ h => h) (Or.inl ⟨by rfl, ?_⟩) ?_ ?_
                  rotate_left; exact slv; rotate_left; exact sla
                  refine take_ (i := 12) (N := some 137) (v := ?_) (a' := ?_) #[tt,tt,tt,tt,tt,tt,tt,tt,tt,tt,tt,tt,tt,ff,ff,ff,ff,ff,ff,ff,ff,ff,ff,ff,ff,ff,ff,ff,ff,ff,ff,ff] rfl rfl (take_ofW HT_.out HW_.out (by kernel_rfl)) (fun _ _ _ h => h) (Or.inl ⟨by rfl, ?_⟩) hHeld ?_ ?_
                  rotate_left; exact slt5; rotate_left; exact sla
                  refine pure_ (i := 13) (N := some 138) (v := ?_) (a' := ?_) #[tt,tt,tt,tt,tt,tt,tt,tt,tt,tt,tt,tt,tt,tt,ff,ff,ff,ff,ff,ff,ff,ff,ff,ff,ff,ff,ff,ff,ff,ff,ff,ff] rfl rfl (any_of HT_.out (by kernel_rfl)) (fun _ _ _ h => h) (Or.inl ⟨by rfl, ?_⟩) ?_ ?_
                  rotate_left; exact slv; rotate_left; exact sla
                  refine pure_ (i := 14) (N := some 139) (v := ?_) (a' := ?_) #[tt,tt,tt,tt,tt,tt,tt,tt,tt,tt,tt,tt,tt,tt,tt,ff,ff,ff,ff,ff,ff,ff,ff,ff,ff,ff,ff,ff,ff,ff,ff,ff] rfl rfl (any_of HT_.out (by kernel_rfl)) (fun _ _ _ h => h) (Or.inl ⟨by rfl, ?_⟩) ?_ ?_
                  rotate_left; exact slv; rotate_left; exact sla
                  refine pure_ (i := 15) (N := some 140) (v := ?_) (a' := ?_) #[tt,tt,tt,tt,tt,tt,tt,tt,tt,tt,tt,tt,tt,tt,tt,tt,ff,ff,ff,ff,ff,ff,ff,ff,ff,ff,ff,ff,ff,ff,ff,ff] rfl rfl (any_of HT_.out (by kernel_rfl)) (fun _ _ _ h => h) (Or.inl ⟨by rfl, ?_⟩) ?_ ?_
                  rotate_left; exact slv; rotate_left; exact sla
                  refine pure_ (i := 16) (N := some 141) (v := ?_) (a' := ?_) #[tt,tt,tt,tt,tt,tt,tt,tt,tt,tt,tt,tt,tt,tt,tt,tt,tt,ff,ff,ff,ff,ff,ff,ff,ff,ff,ff,ff,ff,ff,ff,ff] rfl rfl (any_of HT_.out (by kernel_rfl)) (fun _ _ _ h => h) (Or.inl ⟨by rfl, ?_⟩) ?_ ?_
                  rotate_left; exact slv; rotate_left; exact sla
                  refine pure_ (i := 20) (N := some 145) (v := ?_) (a' := ?_) #[tt,tt,tt,tt,tt,tt,tt,tt,tt,tt,tt,tt,tt,tt,tt,tt,tt,ff,ff,ff,tt,ff,ff,ff,ff,ff,ff,ff,ff,ff,ff,ff] rfl rfl (any_of HT_.out (by kernel_rfl)) (fun _ _ _ h => h) (Or.inl ⟨by rfl, ?_⟩) ?_ ?_
                  rotate_left; exact slv; rotate_left; exact sla
                  refine pure_ (i := 21) (N := some 146) (v := ?_) (a' := ?_) #[tt,tt,tt,tt,tt,tt,tt,tt,tt,tt,tt,tt,tt,tt,tt,tt,tt,ff,ff,ff,tt,tt,ff,ff,ff,ff,ff,ff,ff,ff,ff,ff] rfl rfl (any_of HT_.out (by kernel_rfl)) (fun _ _ _ h => h) (Or.inl ⟨by rfl, ?_⟩) ?_ ?_
                  rotate_left; exact slv; rotate_left; exact sla
                  refine pure_ (i := 22) (N := some 147) (v := ?_) (a' := ?_) #[tt,tt,tt,tt,tt,tt,tt,tt,tt,tt,tt,tt,tt,tt,tt,tt,tt,ff,ff,ff,tt,tt,tt,ff,ff,ff,ff,ff,ff,ff,ff,ff] rfl rfl (any_of HT_.out (by kernel_rfl)) (fun _ _ _ h => h) (Or.inl ⟨by rfl, ?_⟩) ?_ ?_
                  rotate_left; exact slv; rotate_left; exact sla
                  refine pure_ (i := 24) (N := some 149) (v := ?_) (a' := ?_) #[tt,tt,tt,tt,tt,tt,tt,tt,tt,tt,tt,tt,tt,tt,tt,tt,tt,ff,ff,ff,tt,tt,tt,ff,tt,ff,ff,ff,ff,ff,ff,ff] rfl rfl (any_of HT_.out (by kernel_rfl)) (fun _ _ _ h => h) (Or.inl ⟨by rfl, ?_⟩) ?_ ?_
                  rotate_left; exact slv; rotate_left; exact sla
                  refine take_ (i := 17) (N := some 142) (v := ?_) (a' := ?_) #[tt,tt,tt,tt,tt,tt,tt,tt,tt,tt,tt,tt,tt,tt,tt,tt,tt,tt,ff,ff,tt,tt,tt,ff,tt,ff,ff,ff,ff,ff,ff,ff] rfl rfl (take_ofW HT_.out HW_.out (by kernel_rfl)) (fun _ _ _ h => h) (Or.inl ⟨by rfl, ?_⟩) hHeld ?_ ?_
                  rotate_left; exact slt5; rotate_left; exact sla
                  refine pure_ (i := 18) (N := some 143) (v := ?_) (a' := ?_) #[tt,tt,tt,tt,tt,tt,tt,tt,tt,tt,tt,tt,tt,tt,tt,tt,tt,tt,tt,ff,tt,tt,tt,ff,tt,ff,ff,ff,ff,ff,ff,ff] rfl rfl (any_of HT_.out (by kernel_rfl)) (fun _ _ _ h => h) (Or.inl ⟨by rfl, ?_⟩) ?_ ?_
                  rotate_left; exact slv; rotate_left; exact sla
                  refine take_ (i := 19) (N := some 144) (v := ?_) (a' := ?_) #[tt,tt,tt,tt,tt,tt,tt,tt,tt,tt,tt,tt,tt,tt,tt,tt,tt,tt,tt,tt,tt,tt,tt,ff,tt,ff,ff,ff,ff,ff,ff,ff] rfl rfl (take_ofW HT_.out HW_.out (by kernel_rfl)) (fun _ _ _ h => h) (Or.inl ⟨by rfl, ?_⟩) hHeld ?_ ?_
                  rotate_left; exact slt5; rotate_left; exact sla
                  refine take_ (i := 23) (N := some 148) (v := ?_) (a' := ?_) #[tt,tt,tt,tt,tt,tt,tt,tt,tt,tt,tt,tt,tt,tt,tt,tt,tt,tt,tt,tt,tt,tt,tt,tt,tt,ff,ff,ff,ff,ff,ff,ff] rfl rfl (take_ofW HT_.out HW_.out (by kernel_rfl)) (fun _ _ _ h => h) (Or.inl ⟨by rfl, ?_⟩) hHeld ?_ ?_
                  rotate_left; exact slt5; rotate_left; exact sla
                  refine take_ (i := 25) (N := some 150) (v := ?_) (a' := ?_) #[tt,tt,tt,tt,tt,tt,tt,tt,tt,tt,tt,tt,tt,tt,tt,tt,tt,tt,tt,tt,tt,tt,tt,tt,tt,tt,ff,ff,ff,ff,ff,ff] rfl rfl (take_ofW HT_.out HW_.out (by kernel_rfl)) (fun _ _ _ h => h) (Or.inl ⟨by rfl, ?_⟩) hHeld ?_ ?_
                  rotate_left; exact slt5; rotate_left; exact sla
                  refine pure_ (i := 26) (N := some 151) (v := ?_) (a' := ?_) #[tt,tt,tt,tt,tt,tt,tt,tt,tt,tt,tt,tt,tt,tt,tt,tt,tt,tt,tt,tt,tt,tt,tt,tt,tt,tt,tt,ff,ff,ff,ff,ff] rfl rfl (any_of HT_.out (by kernel_rfl)) (fun _ _ _ h => h) (Or.inl ⟨by rfl, ?_⟩) ?_ ?_
                  rotate_left; exact slv; rotate_left; exact sla
                  refine pure_ (i := 27) (N := some 152) (v := ?_) (a' := ?_) #[tt,tt,tt,tt,tt,tt,tt,tt,tt,tt,tt,tt,tt,tt,tt,tt,tt,tt,tt,tt,tt,tt,tt,tt,tt,tt,tt,tt,ff,ff,ff,ff] rfl rfl (any_of HT_.out (by kernel_rfl)) (fun _ _ _ h => h) (Or.inl ⟨by rfl, ?_⟩) ?_ ?_
                  rotate_left; exact slv; rotate_left; exact sla
                  refine pure_ (i := 28) (N := some 153) (v := ?_) (a' := ?_) #[tt,tt,tt,tt,tt,tt,tt,tt,tt,tt,tt,tt,tt,tt,tt,tt,tt,tt,tt,tt,tt,tt,tt,tt,tt,tt,tt,tt,tt,ff,ff,ff] rfl rfl (any_of HT_.out (by kernel_rfl)) (fun _ _ _ h => h) (Or.inl ⟨by rfl, ?_⟩) ?_ ?_
                  rotate_left; exact slv; rotate_left; exact sla
                  refine pure_ (i := 29) (N := some 154) (v := ?_) (a' := ?_) #[tt,tt,tt,tt,tt,tt,tt,tt,tt,tt,tt,tt,tt,tt,tt,tt,tt,tt,tt,tt,tt,tt,tt,tt,tt,tt,tt,tt,tt,tt,ff,ff] rfl rfl (any_of HT_.out (by kernel_rfl)) (fun _ _ _ h => h) (Or.inl ⟨by rfl, ?_⟩) ?_ ?_
                  rotate_left; exact slv; rotate_left; exact sla
                  refine pure_ (i := 30) (N := some 155) (v := ?_) (a' := ?_) #[tt,tt,tt,tt,tt,tt,tt,tt,tt,tt,tt,tt,tt,tt,tt,tt,tt,tt,tt,tt,tt,tt,tt,tt,tt,tt,tt,tt,tt,tt,tt,ff] rfl rfl (any_of HT_.out (by kernel_rfl)) (fun _ _ _ h => h) (Or.inl ⟨by rfl, ?_⟩) ?_ ?_
                  rotate_left; exact slv; rotate_left; exact sla
                  refine last_ (i := 31) (N := none) #[tt,tt,tt,tt,tt,tt,tt,tt,tt,tt,tt,tt,tt,tt,tt,tt,tt,tt,tt,tt,tt,tt,tt,tt,tt,tt,tt,tt,tt,tt,tt,tt] rfl rfl (one_of HT_.out (by kernel_rfl)) (by decide) (fun K hK => ?_)
                  have hc1 := (came_at HR8.out t ht0 htn).1
                  have hf1 := (came_at HR8.out t ht0 htn).2
                  refine skip_ (w1 := (w8.setCell ⟨gc, t.toNat, none⟩ (.bool false))) (by rfl) rfl ?_ ?_
                  · first | (go_simp; done) | (go_simp; rfl)
                  clear hc1 hf1
                  have HR9 := Aside0.mk (came_put HR8.out t false)
                  have HCG : Chg (fun k => k = gc) w8 (w8.setCell ⟨gc, t.toNat, none⟩ (.bool false)) := Chg.setCell (F := (fun k => k = gc)) (Chg.refl _ w8) (p := ⟨gc, t.toNat, none⟩) (Or.inl rfl) _
                  have HS9 := Aside0.mk (HS8.out.chg HCG (F' := fun k => k = gc) (fun k hk => Or.inl hk))
                  have HB9 : Aside0 (Below w4.heap.size w4 (w8.setCell ⟨gc, t.toNat, none⟩ (.bool false))) := ⟨HB8.out.setCell HGC.out _⟩
                  clear HR8 HS8 HB8 HCG
                  generalize w8.setCell ⟨gc, t.toNat, none⟩ (.bool false) = w9 at HR9 HS9 HB9 ⊢
                  refine hK.out _ _ ?_
                  clear hK K
                  refine done_ (done_of HT_.out (by kernel_rfl)) ?_
                  try clear hHeld
                  try clear hw1
                  have hwk := HWK.out
                  go_wp2_with (first | fail | ((with_reducible refine gate_upon ?_); go_simp))
                  go_roundg gk3
                  case measure => first | exact Nat.lt_succ_self _ | omega
                  case rel => exact ⟨k + 1, b.set t.toNat false, rfl, by first | rfl | (simp; done) | (rw [hwk]; done) | (rw [hwk]; rfl), HK1, HR9, HSQ, HS9, HB9⟩
            · have c1 : decide (0 ≤ di) = false := decide_eq_false a1
              clear a1
              refine start_ (n := 40) (S := fun w' => w'.cell? ⟨gx, 1, none⟩ = some (.int .i64 t) ∧ w'.cell? ⟨gx, 2, none⟩ = some (.int .i64 co) ∧ w'.cell? ⟨gw, i, none⟩ = some (.int .i64 di) ∧ w'.cell? ⟨gw, t.toNat, none⟩ = some (.int .i64 dt)) (ds := []) #[ff,ff,ff,ff,ff,ff,ff,ff,ff,ff,ff,ff,ff,ff,ff,ff,ff,ff,ff,ff,ff,ff,ff,ff,ff,ff,ff,ff,ff,ff,ff,ff,ff,ff,ff,ff,ff,ff,ff,ff] (by kernel_rfl) rfl rfl ⟨hx1, hx2, (HDI.out _ HBWB.out).1, (HDI.out _ HBWB.out).2⟩ (fun hHeld => ?_)
              refine with_tabW edges.tab19 edges.bits19 (fun HT_ HW_ => ?_)
              have HR7 := Aside0.mk (Kd.R_drew HRBB.out)
              have HS7 := Aside0.mk (HSEB.out.step (below_drew1 (Below.refl wB.heap.size wB)))
              have HB7 : Aside0 (Below w4.heap.size w4 wB.drew) := ⟨below_drew HBWB.out⟩
              have HX7 : Aside0 (wB.drew.heap[gx]? = _) := ⟨HXB.out⟩
              have HC7 : Aside0 (wB.drew.cell? ⟨gc, t.toNat, none⟩ = some (.bool bt)) := ⟨HCT.out⟩
              clear HRBB HSEB HBWB HXB HCT hx1 hx2
              generalize wB.drew = w7 at HR7 HS7 HB7 HX7 HC7 hHeld ⊢
              refine pure_ (i := 0) (N := some 85) (v := ?_) (a' := ?_) #[tt,ff,ff,ff,ff,ff,ff,ff,ff,ff,ff,ff,ff,ff,ff,ff,ff,ff,ff,ff,ff,ff,ff,ff,ff,ff,ff,ff,ff,ff,ff,ff,ff,ff,ff,ff,ff,ff,ff,ff] rfl rfl (any_of HT_.out (by kernel_rfl)) (fun _ _ _ h => h) (Or.inl ⟨by rfl, ?_⟩) ?_ ?_
              rotate_left; exact slv; rotate_left; exact sla
              refine take_ (i := 1) (N := some 86) (v := ?_) (a' := ?_) #[tt,tt,ff,ff,ff,ff,ff,ff,ff,ff,ff,ff,ff,ff,ff,ff,ff,ff,ff,ff,ff,ff,ff,ff,ff,ff,ff,ff,ff,ff,ff,ff,ff,ff,ff,ff,ff,ff,ff,ff] rfl rfl (take_ofW HT_.out HW_.out (by kernel_rfl)) (fun _ _ _ h => h) (Or.inl ⟨by rfl, ?_⟩) hHeld ?_ ?_
              rotate_left; exact slt4; rotate_left; exact sla
              refine pure_ (i := 2) (N := some 87) (v := ?_) (a' := ?_) #[tt,tt,tt,ff,ff,ff,ff,ff,ff,ff,ff,ff,ff,ff,ff,ff,ff,ff,ff,ff,ff,ff,ff,ff,ff,ff,ff,ff,ff,ff,ff,ff,ff,ff,ff,ff,ff,ff,ff,ff] rfl rfl (any_of HT_.out (by kernel_rfl)) (fun _ _ _ h => h) (Or.inl ⟨by rfl, ?_⟩) ?_ ?_
              rotate_left; exact slv; rotate_left; exact sla
              refine pure_ (i := 3) (N := some 88) (v := ?_) (a' := ?_) #[tt,tt,tt,tt,ff,ff,ff,ff,ff,ff,ff,ff,ff,ff,ff,ff,ff,ff,ff,ff,ff,ff,ff,ff,ff,ff,ff,ff,ff,ff,ff,ff,ff,ff,ff,ff,ff,ff,ff,ff] rfl rfl (any_of HT_.out (by kernel_rfl)) (fun _ _ _ h => h) (Or.inl ⟨by rfl, ?_⟩) ?_ ?_
              rotate_left; exact slv; rotate_left; exact sla
              refine pure_ (i := 4) (N := some 89) (v := ?_) (a' := ?_) #[tt,tt,tt,tt,tt,ff,ff,ff,ff,ff,ff,ff,ff,ff,ff,ff,ff,ff,ff,ff,ff,ff,ff,ff,ff,ff,ff,ff,ff,ff,ff,ff,ff,ff,ff,ff,ff,ff,ff,ff] rfl rfl (any_of HT_.out (by kernel_rfl)) (fun _ _ _ h => h) (Or.inl ⟨by rfl, ?_⟩) ?_ ?_
              rotate_left; exact slv; rotate_left; exact sla
              refine pure_ (i := 6) (N := some 91) (v := ?_) (a' := ?_) #[tt,tt,tt,tt,tt,ff,tt,ff,ff,ff,ff,ff,ff,ff,ff,ff,ff,ff,ff,ff,ff,ff,ff,ff,ff,ff,ff,ff,ff,ff,ff,ff,ff,ff,ff,ff,ff,ff,ff,ff] rfl rfl (any_of HT_.out (by kernel_rfl)) (fun _ _ _ h => h) (Or.inl ⟨by rfl, ?_⟩) ?_ ?_
              rotate_left; exact slv; rotate_left; exact sla
              refine pure_ (i := 7) (N := some 92) (v := ?_) (a' := ?_) #[tt,tt,tt,tt,tt,ff,tt,tt,ff,ff,ff,ff,ff,ff,ff,ff,ff,ff,ff,ff,ff,ff,ff,ff,ff,ff,ff,ff,ff,ff,ff,ff,ff,ff,ff,ff,ff,ff,ff,ff] rfl rfl (any_of HT_.out (by kernel_rfl)) (fun _ _ _ h => h) (Or.inl ⟨by rfl, ?_⟩) ?_ ?_
              rotate_left; exact slv; rotate_left; exact sla
              refine take_ (i := 5) (N := some 90) (v := ?_) (a' := ?_) #[tt,tt,tt,tt,tt,tt,tt,tt,ff,ff,ff,ff,ff,ff,ff,ff,ff,ff,ff,ff,ff,ff,ff,ff,ff,ff,ff,ff,ff,ff,ff,ff,ff,ff,ff,ff,ff,ff,ff,ff] rfl rfl (take_ofW HT_.out HW_.out (by kernel_rfl)) (fun _ _ _ h => h) (Or.inl ⟨by rfl, ?_⟩) hHeld ?_ ?_
              rotate_left; exact slt4; rotate_left; exact sla
              refine pure_ (i := 8) (N := some 93) (v := ?_) (a' := ?_) #[tt,tt,tt,tt,tt,tt,tt,tt,tt,ff,ff,ff,ff,ff,ff,ff,ff,ff,ff,ff,ff,ff,ff,ff,ff,ff,ff,ff,ff,ff,ff,ff,ff,ff,ff,ff,ff,ff,ff,ff] rfl rfl (any_of HT_.out (by kernel_rfl)) (fun _ _ _ h => h) (Or.inl ⟨by rfl, ?_⟩) ?_ ?_
              rotate_left; exact slv; rotate_left; exact sla
              refine pure_ (i := 9) (N := some 94) (v := ?_) (a' := ?_) #[tt,tt,tt,tt,tt,tt,tt,tt,tt,tt,ff,ff,ff,ff,ff,ff,ff,ff,ff,ff,ff,ff,ff,ff,ff,ff,ff,ff,ff,ff,ff,ff,ff,ff,ff,ff,ff,ff,ff,ff] rfl rfl (any_of HT_.out (by kernel_rfl)) (fun _ _ _ h => h) (Or.inl ⟨by rfl, ?_⟩) ?_ ?_
              rotate_left; exact slv; rotate_left; exact sla
              refine pure_ (i := 10) (N := some 95) (v := ?_) (a' := ?_) #[tt,tt,tt,tt,tt,tt,tt,tt,tt,tt,tt,ff,ff,ff,ff,ff,ff,ff,ff,ff,ff,ff,ff,ff,ff,ff,ff,ff,ff,ff,ff,ff,ff,ff,ff,ff,ff,ff,ff,ff] rfl rfl (any_of HT_.out (by kernel_rfl)) (fun _ _ _ h => h) (Or.inl ⟨by rfl, ?_⟩) ?_ ?_
              rotate_left; exact slv; rotate_left; exact sla
              refine pure_ (i := 11) (N := some 96) (v := ?_) (a' := ?_) #[tt,tt,tt,tt,tt,tt,tt,tt,tt,tt,tt,tt,ff,ff,ff,ff,ff,ff,ff,ff,ff,ff,ff,ff,ff,ff,ff,ff,ff,ff,ff,ff,ff,ff,ff,ff,ff,ff,ff,ff] rfl rfl (any_of HT_.out (by kernel_rfl)) (fun _ _ _ h => h) (Or.inl ⟨by rfl, ?_⟩) ?_ ?_
              rotate_left; exact slv; rotate_left; exact sla
              refine pure_ (i := 12) (N := some 97) (v := ?_) (a' := ?_) #[tt,tt,tt,tt,tt,tt,tt,tt,tt,tt,tt,tt,tt,ff,ff,ff,ff,ff,ff,ff,ff,ff,ff,ff,ff,ff,ff,ff,ff,ff,ff,ff,ff,ff,ff,ff,ff,ff,ff,ff] rfl rfl (any_of HT_.out (by kernel_rfl)) (fun _ _ _ h => h) (Or.inl ⟨by rfl, ?_⟩) ?_ ?_
              rotate_left; exact slv; rotate_left; exact sla
              refine pure_ (i := 13) (N := some 98) (v := ?_) (a' := ?_) #[tt,tt,tt,tt,tt,tt,tt,tt,tt,tt,tt,tt,tt,tt,ff,ff,ff,ff,ff,ff,ff,ff,ff,ff,ff,ff,ff,ff,ff,ff,ff,ff,ff,ff,ff,ff,ff,ff,ff,ff] rfl rfl (any_of HT_.out (by kernel_rfl)) (fun _ _ _ h => h) (Or.inl ⟨by rfl, ?_⟩) ?_ ?_
              rotate_left; exact slv; rotate_left; exact sla
              refine take_ (i := 14) (N := some 99) (v := ?_) (a' := ?_) #[tt,tt,tt,tt,tt,tt,tt,tt,tt,tt,tt,tt,tt,tt,tt,ff,ff,ff,ff,ff,ff,ff,ff,ff,ff,ff,ff,ff,ff,ff,ff,ff,ff,ff,ff,ff,ff,ff,ff,ff] rfl rfl (take_ofW HT_.out HW_.out (by kernel_rfl)) (fun _ _ _ h => h) (Or.inl ⟨by rfl, ?_⟩) hHeld ?_ ?_
              rotate_left; exact slt4; rotate_left; exact sla
              refine pure_ (i := 15) (N := some 100) (v := ?_) (a' := ?_) #[tt,tt,tt,tt,tt,tt,tt,tt,tt,tt,tt,tt,tt,tt,tt,tt,ff,ff,ff,ff,ff,ff,ff,ff,ff,ff,ff,ff,ff,ff,ff,ff,ff,ff,ff,ff,ff,ff,ff,ff] rfl rfl (any_of HT_.out (by kernel_rfl)) (fun _ _ _ h => h) (Or.inl ⟨by rfl, ?_⟩) ?_ ?_
              rotate_left; exact slv; rotate_left; exact sla
              refine pure_ (i := 16) (N := some 101) (v := ?_) (a' := ?_) #[tt,tt,tt,tt,tt,tt,tt,tt,tt,tt,tt,tt,tt,tt,tt,tt,tt,ff,ff,ff,ff,ff,ff,ff,ff,ff,ff,ff,ff,ff,ff,ff,ff,ff,ff,ff,ff,ff,ff,ff] rfl rfl (any_of HT_.out (by kernel_rfl)) (fun _ _ _ h => h) (Or.inl ⟨by rfl, ?_⟩) ?_ ?_
              rotate_left; exact slv; rotate_left; exact sla
              refine pure_ (i := 17) (N := some 102) (v := undef) (a' := ?_) #[tt,tt,tt,tt,tt,tt,tt,tt,tt,tt,tt,tt,tt,tt,tt,tt,tt,tt,ff,ff,ff,ff,ff,ff,ff,ff,ff,ff,ff,ff,ff,ff,ff,ff,ff,ff,ff,ff,ff,ff] rfl rfl (any_of HT_.out (by kernel_rfl)) (fun _ _ _ h => h) (Or.inr ⟨by rfl, rfl⟩) ?_ ?_
              rotate_left
              · exact sla
              refine pure_ (i := 18) (N := some 103) (v := undef) (a' := ?_) #[tt,tt,tt,tt,tt,tt,tt,tt,tt,tt,tt,tt,tt,tt,tt,tt,tt,tt,tt,ff,ff,ff,ff,ff,ff,ff,ff,ff,ff,ff,ff,ff,ff,ff,ff,ff,ff,ff,ff,ff] rfl rfl (any_of HT_.out (by kernel_rfl)) (fun _ _ _ h => h) (Or.inr ⟨by rfl, rfl⟩) ?_ ?_
              rotate_left
              · exact sla
              refine pure_ (i := 19) (N := some 104) (v := undef) (a' := ?_) #[tt,tt,tt,tt,tt,tt,tt,tt,tt,tt,tt,tt,tt,tt,tt,tt,tt,tt,tt,tt,ff,ff,ff,ff,ff,ff,ff,ff,ff,ff,ff,ff,ff,ff,ff,ff,ff,ff,ff,ff] rfl rfl (any_of HT_.out (by kernel_rfl)) (fun _ _ _ h => h) (Or.inr ⟨by rfl, rfl⟩) ?_ ?_
              rotate_left
              · exact sla
              refine pure_ (i := 20) (N := some 105) (v := undef) (a' := ?_) #[tt,tt,tt,tt,tt,tt,tt,tt,tt,tt,tt,tt,tt,tt,tt,tt,tt,tt,tt,tt,tt,ff,ff,ff,ff,ff,ff,ff,ff,ff,ff,ff,ff,ff,ff,ff,ff,ff,ff,ff] rfl rfl (any_of HT_.out (by kernel_rfl)) (fun _ _ _ h => h) (Or.inr ⟨by rfl, rfl⟩) ?_ ?_
              rotate_left
              · exact sla
              refine pure_ (i := 21) (N := some 106) (v := undef) (a' := ?_) #[tt,tt,tt,tt,tt,tt,tt,tt,tt,tt,tt,tt,tt,tt,tt,tt,tt,tt,tt,tt,tt,tt,ff,ff,ff,ff,ff,ff,ff,ff,ff,ff,ff,ff,ff,ff,ff,ff,ff,ff] rfl rfl (any_of HT_.out (by kernel_rfl)) (fun _ _ _ h => h) (Or.inr ⟨by rfl, rfl⟩) ?_ ?_
              rotate_left
              · exact sla
              refine pure_ (i := 22) (N := some 107) (v := undef) (a' := ?_) #[tt,tt,tt,tt,tt,tt,tt,tt,tt,tt,tt,tt,tt,tt,tt,tt,tt,tt,tt,tt,tt,tt,tt,ff,ff,ff,ff,ff,ff,ff,ff,ff,ff,ff,ff,ff,ff,ff,ff,ff] rfl rfl (any_of HT_.out (by kernel_rfl)) (fun _ _ _ h => h) (Or.inr ⟨by rfl, rfl⟩) ?_ ?_
              rotate_left
              · exact sla
              refine pure_ (i := 23) (N := some 108) (v := undef) (a' := ?_) #[tt,tt,tt,tt,tt,tt,tt,tt,tt,tt,tt,tt,tt,tt,tt,tt,tt,tt,tt,tt,tt,tt,tt,tt,ff,ff,ff,ff,ff,ff,ff,ff,ff,ff,ff,ff,ff,ff,ff,ff] rfl rfl (any_of HT_.out (by kernel_rfl)) (fun _ _ _ h => h) (Or.inr ⟨by rfl, rfl⟩) ?_ ?_
              rotate_left
              · exact sla
              refine pure_ (i := 24) (N := some 109) (v := undef) (a' := ?_) #[tt,tt,tt,tt,tt,tt,tt,tt,tt,tt,tt,tt,tt,tt,tt,tt,tt,tt,tt,tt,tt,tt,tt,tt,tt,ff,ff,ff,ff,ff,ff,ff,ff,ff,ff,ff,ff,ff,ff,ff] rfl rfl (any_of HT_.out (by kernel_rfl)) (fun _ _ _ h => h) (Or.inr ⟨by rfl, rfl⟩) ?_ ?_
              rotate_left
              · exact sla
              refine pure_ (i := 25) (N := some 110) (v := undef) (a' := ?_) #[tt,tt,tt,tt,tt,tt,tt,tt,tt,tt,tt,tt,tt,tt,tt,tt,tt,tt,tt,tt,tt,tt,tt,tt,tt,tt,ff,ff,ff,ff,ff,ff,ff,ff,ff,ff,ff,ff,ff,ff] rfl rfl (any_of HT_.out (by kernel_rfl)) (fun _ _ _ h => h) (Or.inr ⟨by rfl, rfl⟩) ?_ ?_
              rotate_left
              · exact sla
              refine pure_ (i := 26) (N := some 111) (v := undef) (a' := ?_) #[tt,tt,tt,tt,tt,tt,tt,tt,tt,tt,tt,tt,tt,tt,tt,tt,tt,tt,tt,tt,tt,tt,tt,tt,tt,tt,tt,ff,ff,ff,ff,ff,ff,ff,ff,ff,ff,ff,ff,ff] rfl rfl (any_of HT_.out (by kernel_rfl)) (fun _ _ _ h => h) (Or.inr ⟨by rfl, rfl⟩) ?_ ?_
              rotate_left
              · exact sla
              refine pure_ (i := 27) (N := some 112) (v := undef) (a' := ?_) #[tt,tt,tt,tt,tt,tt,tt,tt,tt,tt,tt,tt,tt,tt,tt,tt,tt,tt,tt,tt,tt,tt,tt,tt,tt,tt,tt,tt,ff,ff,ff,ff,ff,ff,ff,ff,ff,ff,ff,ff] rfl rfl (any_of HT_.out (by kernel_rfl)) (fun _ _ _ h => h) (Or.inr ⟨by rfl, rfl⟩) ?_ ?_
              rotate_left
              · exact sla
              refine pure_ (i := 28) (N := some 113) (v := undef) (a' := ?_) #[tt,tt,tt,tt,tt,tt,tt,tt,tt,tt,tt,tt,tt,tt,tt,tt,tt,tt,tt,tt,tt,tt,tt,tt,tt,tt,tt,tt,tt,ff,ff,ff,ff,ff,ff,ff,ff,ff,ff,ff] rfl rfl (any_of HT_.out (by kernel_rfl)) (fun _ _ _ h => h) (Or.inr ⟨by rfl, rfl⟩) ?_ ?_
              rotate_left
              · exact sla
              refine pure_ (i := 29) (N := some 114) (v := undef) (a' := ?_) #[tt,tt,tt,tt,tt,tt,tt,tt,tt,tt,tt,tt,tt,tt,tt,tt,tt,tt,tt,tt,tt,tt,tt,tt,tt,tt,tt,tt,tt,tt,ff,ff,ff,ff,ff,ff,ff,ff,ff,ff] rfl rfl (any_of HT_.out (by kernel_rfl)) (fun _ _ _ h => h) (Or.inr ⟨by rfl, rfl⟩) ?_ ?_
              rotate_left
              · exact sla
              refine pure_ (i := 30) (N := some 115) (v := undef) (a' := ?_) #[tt,tt,tt,tt,tt,tt,tt,tt,tt,tt,tt,tt,tt,tt,tt,tt,tt,tt,tt,tt,tt,tt,tt,tt,tt,tt,tt,tt,tt,tt,tt,ff,ff,ff,ff,ff,ff,ff,ff,ff] rfl rfl (any_of HT_.out (by kernel_rfl)) (fun _ _ _ h => h) (Or.inr ⟨by rfl, rfl⟩) ?_ ?_
              rotate_left
              · exact sla
              refine pure_ (i := 31) (N := some 116) (v := undef) (a' := ?_) #[tt,tt,tt,tt,tt,tt,tt,tt,tt,tt,tt,tt,tt,tt,tt,tt,tt,tt,tt,tt,tt,tt,tt,tt,tt,tt,tt,tt,tt,tt,tt,tt,ff,ff,ff,ff,ff,ff,ff,ff] rfl rfl (any_of HT_.out (by kernel_rfl)) (fun _ _ _ h => h) (Or.inr ⟨by rfl, rfl⟩) ?_ ?_
              rotate_left
              · exact sla
              refine pure_ (i := 32) (N := some 117) (v := undef) (a' := ?_) #[tt,tt,tt,tt,tt,tt,tt,tt,tt,tt,tt,tt,tt,tt,tt,tt,tt,tt,tt,tt,tt,tt,tt,tt,tt,tt,tt,tt,tt,tt,tt,tt,tt,ff,ff,ff,ff,ff,ff,ff] rfl rfl (any_of HT_.out (by kernel_rfl)) (fun _ _ _ h => h) (Or.inr ⟨by rfl, rfl⟩) ?_ ?_
              rotate_left
              · exact sla
              refine pure_ (i := 33) (N := some 118) (v := undef) (a' := ?_) #[tt,tt,tt,tt,tt,tt,tt,tt,tt,tt,tt,tt,tt,tt,tt,tt,tt,tt,tt,tt,tt,tt,tt,tt,tt,tt,tt,tt,tt,tt,tt,tt,tt,tt,ff,ff,ff,ff,ff,ff] rfl rfl (any_of HT_.out (by kernel_rfl)) (fun _ _ _ h => h) (Or.inr ⟨by rfl, rfl⟩) ?_ ?_
              rotate_left
              · exact sla
              refine pure_ (i := 34) (N := some 119) (v := undef) (a' := ?_) #[tt,tt,tt,tt,tt,tt,tt,tt,tt,tt,tt,tt,tt,tt,tt,tt,tt,tt,tt,tt,tt,tt,tt,tt,tt,tt,tt,tt,tt,tt,tt,tt,tt,tt,tt,ff,ff,ff,ff,ff] rfl rfl (any_of HT_.out (by kernel_rfl)) (fun _ _ _ h => h) (Or.inr ⟨by rfl, rfl⟩) ?_ ?_
              rotate_left
              · exact sla
              refine pure_ (i := 35) (N := some 120) (v := undef) (a' := ?_) #[tt,tt,tt,tt,tt,tt,tt,tt,tt,tt,tt,tt,tt,tt,tt,tt,tt,tt,tt,tt,tt,tt,tt,tt,tt,tt,tt,tt,tt,tt,tt,tt,tt,tt,tt,tt,ff,ff,ff,ff] rfl rfl (any_of HT_.out (by kernel_rfl)) (fun _ _ _ h => h) (Or.inr ⟨by rfl, rfl⟩) ?_ ?_
              rotate_left
              · exact sla
              refine pure_ (i := 36) (N := some 121) (v := undef) (a' := ?_) #[tt,tt,tt,tt,tt,tt,tt,tt,tt,tt,tt,tt,tt,tt,tt,tt,tt,tt,tt,tt,tt,tt,tt,tt,tt,tt,tt,tt,tt,tt,tt,tt,tt,tt,tt,tt,tt,ff,ff,ff] rfl rfl (any_of HT_.out (by kernel_rfl)) (fun _ _ _ h => h) (Or.inr ⟨by rfl, rfl⟩) ?_ ?_
              rotate_left
              · exact sla
              refine pure_ (i := 37) (N := some 122) (v := undef) (a' := ?_) #[tt,tt,tt,tt,tt,tt,tt,tt,tt,tt,tt,tt,tt,tt,tt,tt,tt,tt,tt,tt,tt,tt,tt,tt,tt,tt,tt,tt,tt,tt,tt,tt,tt,tt,tt,tt,tt,tt,ff,ff] rfl rfl (any_of HT_.out (by kernel_rfl)) (fun _ _ _ h => h) (Or.inr ⟨by rfl, rfl⟩) ?_ ?_
              rotate_left
              · exact sla
              refine pure_ (i := 38) (N := some 123) (v := ?_) (a' := ?_) #[tt,tt,tt,tt,tt,tt,tt,tt,tt,tt,tt,tt,tt,tt,tt,tt,tt,tt,tt,tt,tt,tt,tt,tt,tt,tt,tt,tt,tt,tt,tt,tt,tt,tt,tt,tt,tt,tt,tt,ff] rfl rfl (any_of HT_.out (by kernel_rfl)) (fun _ _ _ h => h) (Or.inl ⟨by rfl, ?_⟩) ?_ ?_
              rotate_left; exact slv; rotate_left; exact sla
              refine pure_ (i := 39) (N := some 124) (v := ?_) (a' := ?_) #[tt,tt,tt,tt,tt,tt,tt,tt,tt,tt,tt,tt,tt,tt,tt,tt,tt,tt,tt,tt,tt,tt,tt,tt,tt,tt,tt,tt,tt,tt,tt,tt,tt,tt,tt,tt,tt,tt,tt,tt] rfl rfl (any_of HT_.out (by kernel_rfl)) (fun _ _ _ h => h) (Or.inl ⟨by rfl, ?_⟩) ?_ ?_
              rotate_left; exact slv; rotate_left; exact sla
              refine done_ (done_of HT_.out (by kernel_rfl)) ?_
              try clear hHeld hw1
              go_wp2_with (first | fail | ((with_reducible refine gate_upon ?_); go_simp))
              cases bt with
              | true =>
                have HSQ : Aside0 (CameI n (outOf out) s d i (k + 1) (b.set t.toNat true)) := ⟨HST.out true (by simp)⟩
                refine start_ (n := 32) (S := fun w' => w'.cell? ⟨gx, 1, none⟩ = some (.int .i64 t) ∧ w'.cell? ⟨gx, 2, none⟩ = some (.int .i64 co) ∧ w'.cell? ⟨gw, i, none⟩ = some (.int .i64 di) ∧ w'.cell? ⟨gw, t.toNat, none⟩ = some (.int .i64 dt) ∧ w'.cell? ⟨gc, t.toNat, none⟩ = some (.bool true)) (ds := [31]) #[ff,ff,ff,ff,ff,ff,ff,ff,ff,ff,ff,ff,ff,ff,ff,ff,ff,ff,ff,ff,ff,ff,ff,ff,ff,ff,ff,ff,ff,ff,ff,ff] (by kernel_rfl) rfl rfl ⟨(blk_cell HX7.out 1).trans rfl, (blk_cell HX7.out 2).trans rfl, (HDI.out _ HB7.out).1, (HDI.out _ HB7.out).2, HC7.out⟩ (fun hHeld => ?_)
                refine with_tabW edges.tab21 edges.bits21 (fun HT_ HW_ => ?_)
                have HR8 := Aside0.mk (Kd.R_drew HR7.out)
                have HS8 := Aside0.mk (HS7.out.step (below_drew1 (Below.refl w7.heap.size w7)))
                have HB8 : Aside0 (Below w4.heap.size w4 w7.drew) := ⟨below_drew HB7.out⟩
                clear HR7 HS7 HB7 HX7 HC7
                generalize w7.drew = w8 at HR8 HS8 HB8 hHeld ⊢
                refine pure_ (i := 0) (N := some 125) (v := ?_) (a' := ?_) #[tt,ff,ff,ff,ff,ff,ff,ff,ff,ff,ff,ff,ff,ff,ff,ff,ff,ff,ff,ff,ff,ff,ff,ff,ff,ff,ff,ff,ff,ff,ff,ff] rfl rfl (any_of HT_.out (by kernel_rfl)) (fun _ _ _ h => h) (Or.inl ⟨by rfl, ?_⟩) ?_ ?_
                rotate_left; exact slv; rotate_left; exact sla
                refine pure_ (i := 1) (N := some 126) (v := ?_) (a' := ?_) #[tt,tt,ff,ff,ff,ff,ff,ff,ff,ff,ff,ff,ff,ff,ff,ff,ff,ff,ff,ff,ff,ff,ff,ff,ff,ff,ff,ff,ff,ff,ff,ff] rfl rfl (any_of HT_.out (by kernel_rfl)) (fun _ _ _ h => h) (Or.inl ⟨by rfl, ?_⟩) ?_ ?_
                rotate_left; exact slv; rotate_left; exact sla
                refine pure_ (i := 3) (N := some 128) (v := ?_) (a' := ?_) #[tt,tt,ff,tt,ff,ff,ff,ff,ff,ff,ff,ff,ff,ff,ff,ff,ff,ff,ff,ff,ff,ff,ff,ff,ff,ff,ff,ff,ff,ff,ff,ff] rfl rfl (any_of HT_.out (by kernel_rfl)) (fun _ _ _ h => h) (Or.inl ⟨by rfl, ?_⟩) ?_ ?_
                rotate_left; exact slv; rotate_left; exact sla
                refine pure_ (i := 4) (N := some 129) (v := ?_) (a' := ?_) #[tt,tt,ff,tt,tt,ff,ff,ff,ff,ff,ff,ff,ff,ff,ff,ff,ff,ff,ff,ff,ff,ff,ff,ff,ff,ff,ff,ff,ff,ff,ff,ff] rfl rfl (any_of HT_.out (by kernel_rfl)) (fun _ _ _ h => h) (Or.inl ⟨by rfl, ?_⟩) ?_ ?_
                rotate_left; exact slv; rotate_left; exact sla
                refine take_ (i := 2) (N := some 127) (v := ?_) (a' := ?_) #[tt,tt,tt,tt,tt,ff,ff,ff,ff,ff,ff,ff,ff,ff,ff,ff,ff,ff,ff,ff,ff,ff,ff,ff,ff,ff,ff,ff,ff,ff,ff,ff] rfl rfl (take_ofW HT_.out HW_.out (by kernel_rfl)) (fun _ _ _ h => h) (Or.inl ⟨by rfl, ?_⟩) hHeld ?_ ?_
                rotate_left; exact slt5; rotate_left; exact sla
                refine take_ (i := 5) (N := some 130) (v := ?_) (a' := ?_) #[tt,tt,tt,tt,tt,tt,ff,ff,ff,ff,ff,ff,ff,ff,ff,ff,ff,ff,ff,ff,ff,ff,ff,ff,ff,ff,ff,ff,ff,ff,ff,ff] rfl rfl (take_ofW HT_.out HW_.out (by kernel_rfl)) (fun _ _ _ h => h) (Or.inl ⟨by rfl, ?_⟩) hHeld ?_ ?_
                rotate_left; exact slt5; rotate_left; exact sla
                refine pure_ (i := 6) (N := some 131) (v := ?_) (a' := ?_) #[tt,tt,tt,tt,tt,tt,tt,ff,ff,ff,ff,ff,ff,ff,ff,ff,ff,ff,ff,ff,ff,ff,ff,ff,ff,ff,ff,ff,ff,ff,ff,ff] rfl rfl (any_of HT_.out (by kernel_rfl)) (fun _ _ _ h => h) (Or.inl ⟨by rfl, ?_⟩) ?_ ?_
                rotate_left; exact slv; rotate_left; exact sla
                refine take_ (i := 7) (N := some 132) (v := ?_) (a' := ?_) #[tt,tt,tt,tt,tt,tt,tt,tt,ff,ff,ff,ff,ff,ff,ff,ff,ff,ff,ff,ff,ff,ff,ff,ff,ff,ff,ff,ff,ff,ff,ff,ff] rfl rfl (take_ofW HT_.out HW_.out (by kernel_rfl)) (fun _ _ _ h => h) (Or.inl ⟨by rfl, ?_⟩) hHeld ?_ ?_
                rotate_left; exact slt5; rotate_left; exact sla
                refine pure_ (i := 8) (N := some 133) (v := ?_) (a' := ?_) #[tt,tt,tt,tt,tt,tt,tt,tt,tt,ff,ff,ff,ff,ff,ff,ff,ff,ff,ff,ff,ff,ff,ff,ff,ff,ff,ff,ff,ff,ff,ff,ff] rfl rfl (any_of HT_.out (by kernel_rfl)) (fun _ _ _ h => h) (Or.inl ⟨by rfl, ?_⟩) ?_ ?_
                rotate_left; exact slv; rotate_left; exact sla
                refine pure_ (i := 9) (N := some 134) (v := undef) (a' := ?_) #[tt,tt,tt,tt,tt,tt,tt,tt,tt,tt,ff,ff,ff,ff,ff,ff,ff,ff,ff,ff,ff,ff,ff,ff,ff,ff,ff,ff,ff,ff,ff,ff] rfl rfl (any_of HT_.out (by kernel_rfl)) (fun _ _ _ h => h) (Or.inr ⟨by rfl, rfl⟩) ?_ ?_
                rotate_left
                · exact sla
                refine pure_ (i := 10) (N := some 135) (v := undef) (a' := ?_) #[tt,tt,tt,tt,tt,tt,tt,tt,tt,tt,tt,ff,ff,ff,ff,ff,ff,ff,ff,ff,ff,ff,ff,ff,ff,ff,ff,ff,ff,ff,ff,ff] rfl rfl (any_of HT_.out (by kernel_rfl)) (fun _ _ _ h => h) (Or.inr ⟨by rfl, rfl⟩) ?_ ?_
                rotate_left
                · exact sla
                refine pure_ (i := 11) (N := some 136) (v := undef) (a' := ?_) #[tt,tt,tt,tt,tt,tt,tt,tt,tt,tt,tt,tt,ff,ff,ff,ff,ff,ff,ff,ff,ff,ff,ff,ff,ff,ff,ff,ff,ff,ff,ff,ff] rfl rfl (any_of HT_.out (by kernel_rfl)) (fun _ _ _ h => h) (Or.inr ⟨by rfl, rfl⟩) ?_ ?_
                rotate_left
                · exact sla
                refine pure_ (i := 12) (N := some 137) (v := undef) (a' := ?_) #[tt,tt,tt,tt,tt,tt,tt,tt,tt,tt,tt,tt,tt,ff,ff,ff,ff,ff,ff,ff,ff,ff,ff,ff,ff,ff,ff,ff,ff,ff,ff,ff] rfl rfl (any_of HT_.out (by kernel_rfl)) (fun _ _ _ h => h) (Or.inr ⟨by rfl, rfl⟩) ?_ ?_
                rotate_left
                · exact sla
                refine pure_ (i := 13) (N := some 138) (v := undef) (a' := ?_) #[tt,tt,tt,tt,tt,tt,tt,tt,tt,tt,tt,tt,tt,tt,ff,ff,ff,ff,ff,ff,ff,ff,ff,ff,ff,ff,ff,ff,ff,ff,ff,ff] rfl rfl (any_of HT_.out (by kernel_rfl)) (fun _ _ _ h => h) (Or.inr ⟨by rfl, rfl⟩) ?_ ?_
                rotate_left
                · exact sla
                refine pure_ (i := 14) (N := some 139) (v := undef) (a' := ?_) #[tt,tt,tt,tt,tt,tt,tt,tt,tt,tt,tt,tt,tt,tt,tt,ff,ff,ff,ff,ff,ff,ff,ff,ff,ff,ff,ff,ff,ff,ff,ff,ff] rfl rfl (any_of HT_.out (by kernel_rfl)) (fun _ _ _ h => h) (Or.inr ⟨by rfl, rfl⟩) ?_ ?_
                rotate_left
                · exact sla
                refine pure_ (i := 15) (N := some 140) (v := undef) (a' := ?_) #[tt,tt,tt,tt,tt,tt,tt,tt,tt,tt,tt,tt,tt,tt,tt,tt,ff,ff,ff,ff,ff,ff,ff,ff,ff,ff,ff,ff,ff,ff,ff,ff] rfl rfl (any_of HT_.out (by kernel_rfl)) (fun _ _ _ h => h) (Or.inr ⟨by rfl, rfl⟩) ?_ ?_
                rotate_left
                · exact sla
                refine pure_ (i := 16) (N := some 141) (v := undef) (a' := ?_) #[tt,tt,tt,tt,tt,tt,tt,tt,tt,tt,tt,tt,tt,tt,tt,tt,tt,ff,ff,ff,ff,ff,ff,ff,ff,ff,ff,ff,ff,ff,ff,ff] rfl rfl (any_of HT_.out (by kernel_rfl)) (fun _ _ _ h => h) (Or.inr ⟨by rfl, rfl⟩) ?_ ?_
                rotate_left
                · exact sla
                refine pure_ (i := 17) (N := some 142) (v := undef) (a' := ?_) #[tt,tt,tt,tt,tt,tt,tt,tt,tt,tt,tt,tt,tt,tt,tt,tt,tt,tt,ff,ff,ff,ff,ff,ff,ff,ff,ff,ff,ff,ff,ff,ff] rfl rfl (any_of HT_.out (by kernel_rfl)) (fun _ _ _ h => h) (Or.inr ⟨by rfl, rfl⟩) ?_ ?_
                rotate_left
                · exact sla
                refine pure_ (i := 18) (N := some 143) (v := undef) (a' := ?_) #[tt,tt,tt,tt,tt,tt,tt,tt,tt,tt,tt,tt,tt,tt,tt,tt,tt,tt,tt,ff,ff,ff,ff,ff,ff,ff,ff,ff,ff,ff,ff,ff] rfl rfl (any_of HT_.out (by kernel_rfl)) (fun _ _ _ h => h) (Or.inr ⟨by rfl, rfl⟩) ?_ ?_
                rotate_left
                · exact sla
                refine pure_ (i := 19) (N := some 144) (v := undef) (a' := ?_) #[tt,tt,tt,tt,tt,tt,tt,tt,tt,tt,tt,tt,tt,tt,tt,tt,tt,tt,tt,tt,ff,ff,ff,ff,ff,ff,ff,ff,ff,ff,ff,ff] rfl rfl (any_of HT_.out (by kernel_rfl)) (fun _ _ _ h => h) (Or.inr ⟨by rfl, rfl⟩) ?_ ?_
                rotate_left
                · exact sla
                refine pure_ (i := 20) (N := some 145) (v := undef) (a' := ?_) #[tt,tt,tt,tt,tt,tt,tt,tt,tt,tt,tt,tt,tt,tt,tt,tt,tt,tt,tt,tt,tt,ff,ff,ff,ff,ff,ff,ff,ff,ff,ff,ff] rfl rfl (any_of HT_.out (by kernel_rfl)) (fun _ _ _ h => h) (Or.inr ⟨by rfl, rfl⟩) ?_ ?_
                rotate_left
                · exact sla
                refine pure_ (i := 21) (N := some 146) (v := undef) (a' := ?_) #[tt,tt,tt,tt,tt,tt,tt,tt,tt,tt,tt,tt,tt,tt,tt,tt,tt,tt,tt,tt,tt,tt,ff,ff,ff,ff,ff,ff,ff,ff,ff,ff] rfl rfl (any_of HT_.out (by kernel_rfl)) (fun _ _ _ h => h) (Or.inr ⟨by rfl, rfl⟩) ?_ ?_
                rotate_left
                · exact sla
                refine pure_ (i := 22) (N := some 147) (v := undef) (a' := ?_) #[tt,tt,tt,tt,tt,tt,tt,tt,tt,tt,tt,tt,tt,tt,tt,tt,tt,tt,tt,tt,tt,tt,tt,ff,ff,ff,ff,ff,ff,ff,ff,ff] rfl rfl (any_of HT_.out (by kernel_rfl)) (fun _ _ _ h => h) (Or.inr ⟨by rfl, rfl⟩) ?_ ?_
                rotate_left
                · exact sla
                refine pure_ (i := 23) (N := some 148) (v := undef) (a' := ?_) #[tt,tt,tt,tt,tt,tt,tt,tt,tt,tt,tt,tt,tt,tt,tt,tt,tt,tt,tt,tt,tt,tt,tt,tt,ff,ff,ff,ff,ff,ff,ff,ff] rfl rfl (any_of HT_.out (by kernel_rfl)) (fun _ _ _ h => h) (Or.inr ⟨by rfl, rfl⟩) ?_ ?_
                rotate_left
                · exact sla
                refine pure_ (i := 24) (N := some 149) (v := undef) (a' := ?_) #[tt,tt,tt,tt,tt,tt,tt,tt,tt,tt,tt,tt,tt,tt,tt,tt,tt,tt,tt,tt,tt,tt,tt,tt,tt,ff,ff,ff,ff,ff,ff,ff] rfl rfl (any_of HT_.out (by kernel_rfl)) (fun _ _ _ h => h) (Or.inr ⟨by rfl, rfl⟩) ?_ ?_
                rotate_left
                · exact sla
                refine pure_ (i := 25) (N := some 150) (v := undef) (a' := ?_) #[tt,tt,tt,tt,tt,tt,tt,tt,tt,tt,tt,tt,tt,tt,tt,tt,tt,tt,tt,tt,tt,tt,tt,tt,tt,tt,ff,ff,ff,ff,ff,ff] rfl rfl (any_of HT_.out (by kernel_rfl)) (fun _ _ _ h => h) (Or.inr ⟨by rfl, rfl⟩) ?_ ?_
                rotate_left
                · exact sla
                refine pure_ (i := 26) (N := some 151) (v := undef) (a' := ?_) #[tt,tt,tt,tt,tt,tt,tt,tt,tt,tt,tt,tt,tt,tt,tt,tt,tt,tt,tt,tt,tt,tt,tt,tt,tt,tt,tt,ff,ff,ff,ff,ff] rfl rfl (any_of HT_.out (by kernel_rfl)) (fun _ _ _ h => h) (Or.inr ⟨by rfl, rfl⟩) ?_ ?_
                rotate_left
                · exact sla
                refine pure_ (i := 27) (N := some 152) (v := undef) (a' := ?_) #[tt,tt,tt,tt,tt,tt,tt,tt,tt,tt,tt,tt,tt,tt,tt,tt,tt,tt,tt,tt,tt,tt,tt,tt,tt,tt,tt,tt,ff,ff,ff,ff] rfl rfl (any_of HT_.out (by kernel_rfl)) (fun _ _ _ h => h) (Or.inr ⟨by rfl, rfl⟩) ?_ ?_
                rotate_left
                · exact sla
                refine pure_ (i := 28) (N := some 153) (v := undef) (a' := ?_) #[tt,tt,tt,tt,tt,tt,tt,tt,tt,tt,tt,tt,tt,tt,tt,tt,tt,tt,tt,tt,tt,tt,tt,tt,tt,tt,tt,tt,tt,ff,ff,ff] rfl rfl (any_of HT_.out (by kernel_rfl)) (fun _ _ _ h => h) (Or.inr ⟨by rfl, rfl⟩) ?_ ?_
                rotate_left
                · exact sla
                refine pure_ (i := 29) (N := some 154) (v := ?_) (a' := ?_) #[tt,tt,tt,tt,tt,tt,tt,tt,tt,tt,tt,tt,tt,tt,tt,tt,tt,tt,tt,tt,tt,tt,tt,tt,tt,tt,tt,tt,tt,tt,ff,ff] rfl rfl (any_of HT_.out (by kernel_rfl)) (fun _ _ _ h => h) (Or.inl ⟨by rfl, ?_⟩) ?_ ?_
                rotate_left; exact slv; rotate_left; exact sla
                refine pure_ (i := 30) (N := some 155) (v := ?_) (a' := ?_) #[tt,tt,tt,tt,tt,tt,tt,tt,tt,tt,tt,tt,tt,tt,tt,tt,tt,tt,tt,tt,tt,tt,tt,tt,tt,tt,tt,tt,tt,tt,tt,ff] rfl rfl (any_of HT_.out (by kernel_rfl)) (fun _ _ _ h => h) (Or.inl ⟨by rfl, ?_⟩) ?_ ?_
                rotate_left; exact slv; rotate_left; exact sla
                refine last_ (i := 31) (N := none) #[tt,tt,tt,tt,tt,tt,tt,tt,tt,tt,tt,tt,tt,tt,tt,tt,tt,tt,tt,tt,tt,tt,tt,tt,tt,tt,tt,tt,tt,tt,tt,tt] rfl rfl (one_of HT_.out (by kernel_rfl)) (by decide) (fun K hK => ?_)
                have hc1 := (came_at HR8.out t ht0 htn).1
                have hf1 := (came_at HR8.out t ht0 htn).2
                refine skip_ (w1 := (w8.setCell ⟨gc, t.toNat, none⟩ (.bool true))) (by rfl) rfl ?_ ?_
                · first | (go_simp; done) | (go_simp; rfl)
                clear hc1 hf1
                have HR9 := Aside0.mk (came_put HR8.out t true)
                have HCG : Chg (fun k => k = gc) w8 (w8.setCell ⟨gc, t.toNat, none⟩ (.bool true)) := Chg.setCell (F := (fun k => k = gc)) (Chg.refl _ w8) (p := ⟨gc, t.toNat, none⟩) (Or.inl rfl) _
                have HS9 := Aside0.mk (HS8.out.chg HCG (F' := fun k => k = gc) (fun k hk => Or.inl hk))
                have HB9 : Aside0 (Below w4.heap.size w4 (w8.setCell ⟨gc, t.toNat, none⟩ (.bool true))) := ⟨HB8.out.setCell HGC.out _⟩
                clear HR8 HS8 HB8 HCG
                generalize w8.setCell ⟨gc, t.toNat, none⟩ (.bool true) = w9 at HR9 HS9 HB9 ⊢
                refine hK.out _ _ ?_
                clear hK K
                refine done_ (done_of HT_.out (by kernel_rfl)) ?_
                try clear hHeld
                try clear hw1
                have hwk := HWK.out
                go_wp2_with (first | fail | ((with_reducible refine gate_upon ?_); go_simp))
                go_roundg gk3
                case measure => first | exact Nat.lt_succ_self _ | omega
                case rel => exact ⟨k + 1, b.set t.toNat true, rfl, by first | rfl | (simp; done) | (rw [hwk]; done) | (rw [hwk]; rfl), HK1, HR9, HSQ, HS9, HB9⟩
              | false =>
                have HSQ : Aside0 (CameI n (outOf out) s d i (k + 1) (b.set t.toNat false)) := ⟨HST.out false (by rw [c1]; rfl)⟩
                refine start_ (n := 32) (S := fun w' => w'.cell? ⟨gx, 1, none⟩ = some (.int .i64 t) ∧ w'.cell? ⟨gx, 2, none⟩ = some (.int .i64 co) ∧ w'.cell? ⟨gw, i, none⟩ = some (.int .i64 di) ∧ w'.cell? ⟨gw, t.toNat, none⟩ = some (.int .i64 dt) ∧ w'.cell? ⟨gc, t.toNat, none⟩ = some (.bool false)) (ds := [31]) #[ff,ff,ff,ff,ff,ff,ff,ff,ff,ff,ff,ff,ff,ff,ff,ff,ff,ff,ff,ff,ff,ff,ff,ff,ff,ff,ff,ff,ff,ff,ff,ff] (by kernel_rfl) rfl rfl ⟨(blk_cell HX7.out 1).trans rfl, (blk_cell HX7.out 2).trans rfl, (HDI.out _ HB7.out).1, (HDI.out _ HB7.out).2, HC7.out⟩ (fun hHeld => ?_)
                refine with_tabW edges.tab21 edges.bits21 (fun HT_ HW_ => ?_)
                have HR8 := Aside0.mk (Kd.R_drew HR7.out)
                have HS8 := Aside0.mk (HS7.out.step (below_drew1 (Below.refl w7.heap.size w7)))
                have HB8 : Aside0 (Below w4.heap.size w4 w7.drew) := ⟨below_drew HB7.out⟩
                clear HR7 HS7 HB7 HX7 HC7
                generalize w7.drew = w8 at HR8 HS8 HB8 hHeld ⊢
                refine pure_ (i := 0) (N := some 125) (v := ?_) (a' := ?_) #[tt,ff,ff,ff,ff,ff,ff,ff,ff,ff,ff,ff,ff,ff,ff,ff,ff,ff,ff,ff,ff,ff,ff,ff,ff,ff,ff,ff,ff,ff,ff,ff] rfl rfl (any_of HT_.out (by kernel_rfl)) (fun _ _ _ h => h) (Or.inl ⟨by rfl, ?_⟩) ?_ ?_
                rotate_left; exact slv; rotate_left; exact sla
                refine pure_ (i := 1) (N := some 126) (v := ?_) (a' := ?_) #[tt,tt,ff,ff,ff,ff,ff,ff,ff,ff,ff,ff,ff,ff,ff,ff,ff,ff,ff,ff,ff,ff,ff,ff,ff,ff,ff,ff,ff,ff,ff,ff] rfl rfl (any_of HT_.out (by kernel_rfl)) (fun _ _ _ h => h) (Or.inl ⟨by rfl, ?_⟩) ?_ ?_
                rotate_left; exact slv; rotate_left; exact sla
                refine pure_ (i := 3) (N := some 128) (v := ?_) (a' := ?_) #[tt,tt,ff,tt,ff,ff,ff,ff,ff,ff,ff,ff,ff,ff,ff,ff,ff,ff,ff,ff,ff,ff,ff,ff,ff,ff,ff,ff,ff,ff,ff,ff] rfl rfl (any_of HT_.out (by kernel_rfl)) (fun _ _ _ h => h) (Or.inl ⟨by rfl, ?_⟩) ?_ ?_
                rotate_left; exact slv; rotate_left; exact sla
                refine pure_ (i := 4) (N := some 129) (v := ?_) (a' := ?_) #[tt,tt,ff,tt,tt,ff,ff,ff,ff,ff,ff,ff,ff,ff,ff,ff,ff,ff,ff,ff,ff,ff,ff,ff,ff,ff,ff,ff,ff,ff,ff,ff] rfl rfl (any_of HT_.out (by kernel_rfl)) (fun _ _ _ h => h) (Or.inl ⟨by rfl, ?_⟩) ?_ ?_
                rotate_left; exact slv; rotate_left; exact sla
                refine take_ (i := 2) (N := some 127) (v := ?_) (a' := ?_) #[tt,tt,tt,tt,tt,ff,ff,ff,ff,ff,ff,ff,ff,ff,ff,ff,ff,ff,ff,ff,ff,ff,ff,ff,ff,ff,ff,ff,ff,ff,ff,ff] rfl rfl (take_ofW HT_.out HW_.out (by kernel_rfl)) (fun _ _ _ h => h) (Or.inl ⟨by rfl, ?_⟩) hHeld ?_ ?_
                rotate_left; exact slt5; rotate_left; exact sla
                refine take_ (i := 5) (N := some 130) (v := ?_) (a' := ?_) #[tt,tt,tt,tt,tt,tt,ff,ff,ff,ff,ff,ff,ff,ff,ff,ff,ff,ff,ff,ff,ff,ff,ff,ff,ff,ff,ff,ff,ff,ff,ff,ff] rfl rfl (take_ofW HT_.out HW_.out (by kernel_rfl)) (fun _ _ _ h => h) (Or.inl ⟨by rfl, ?_⟩) hHeld ?_ ?_
                rotate_left; exact slt5; rotate_left; exact sla
                refine pure_ (i := 6) (N := some 131) (v := ?_) (a' := ?_) #[tt,tt,tt,tt,tt,tt,tt,ff,ff,ff,ff,ff,ff,ff,ff,ff,ff,ff,ff,ff,ff,ff,ff,ff,ff,ff,ff,ff,ff,ff,ff,ff] rfl rfl (any_of HT_.out (by kernel_rfl)) (fun _ _ _ h => h) (Or.inl ⟨by rfl, ?_⟩) ?_ ?_
                rotate_left; exact slv; rotate_left; exact sla
                refine take_ (i := 7) (N := some 132) (v := ?_) (a' := ?_) #[tt,tt,tt,tt,tt,tt,tt,tt,ff,ff,ff,ff,ff,ff,ff,ff,ff,ff,ff,ff,ff,ff,ff,ff,ff,ff,ff,ff,ff,ff,ff,ff] rfl rfl (take_ofW HT_.out HW_.out (by kernel_rfl)) (fun _ _ _ h => h) (Or.inl ⟨by rfl, ?_⟩) hHeld ?_ ?_
                rotate_left; exact slt5; rotate_left; exact sla
                refine pure_ (i := 8) (N := some 133) (v := ?_) (a' := ?_) #[tt,tt,tt,tt,tt,tt,tt,tt,tt,ff,ff,ff,ff,ff,ff,ff,ff,ff,ff,ff,ff,ff,ff,ff,ff,ff,ff,ff,ff,ff,ff,ff] rfl rfl (any_of HT_.out (by kernel_rfl)) (fun _ _ _ h => h) (Or.inl ⟨by rfl, ?_⟩) ?_ ?_
                rotate_left; exact slv; rotate_left; exact sla
                refine pure_ (i := 9) (N := some 134) (v := ?_) (a' := ?_) #[tt,tt,tt,tt,tt,tt,tt,tt,tt,tt,ff,ff,ff,ff,ff,ff,ff,ff,ff,ff,ff,ff,ff,ff,ff,ff,ff,ff,ff,ff,ff,ff] rfl rfl (any_of HT_.out (by kernel_rfl)) (fun _ _ _ h => h) (Or.inl ⟨by rfl, ?_⟩) ?_ ?_
                rotate_left; exact slv; rotate_left; exact sla
                refine pure_ (i := 10) (N := some 135) (v := ?_) (a' := ?_) #[tt,tt,tt,tt,tt,tt,tt,tt,tt,tt,tt,ff,ff,ff,ff,ff,ff,ff,ff,ff,ff,ff,ff,ff,ff,ff,ff,ff,ff,ff,ff,ff] rfl rfl (any_of HT_.out (by kernel_rfl)) (fun _ _ _ h => h) (Or.inl ⟨by rfl, ?_⟩) ?_ ?_
                rotate_left; exact slv; rotate_left; exact sla
                refine pure_ (i := 11) (N := some 136) (v := ?_) (a' := ?_) #[tt,tt,tt,tt,tt,tt,tt,tt,tt,tt,tt,tt,ff,ff,ff,ff,ff,ff,ff,ff,ff,ff,ff,ff,ff,ff,ff,ff,ff,ff,ff,ff] rfl rfl (any_of HT_.out (by kernel_rfl)) (fun _ _ _ h => h) (Or.inl ⟨by rfl, ?_⟩) ?_ ?_
                rotate_left; exact slv; rotate_left; exact sla
                refine take_ (i := 12) (N := some 137) (v := ?_) (a' := ?_) #[tt,tt,tt,tt,tt,tt,tt,tt,tt,tt,tt,tt,tt,ff,ff,ff,ff,ff,ff,ff,ff,ff,ff,ff,ff,ff,ff,ff,ff,ff,ff,ff] rfl rfl (take_ofW HT_.out HW_.out (by kernel_rfl)) (fun _ _ _ h => h) (Or.inl ⟨by rfl, ?_⟩) hHeld ?_ ?_
                rotate_left; exact slt5; rotate_left; exact sla
                refine pure_ (i := 13) (N := some 138) (v := ?_) (a' := ?_) #[tt,tt,tt,tt,tt,tt,tt,tt,tt,tt,tt,tt,tt,tt,ff,ff,ff,ff,ff,ff,ff,ff,ff,ff,ff,ff,ff,ff,ff,ff,ff,ff] rfl rfl (any_of HT_.out (by kernel_rfl)) (fun _ _ _ h => h) (Or.inl ⟨by rfl, ?_⟩) ?_ ?_
                rotate_left; exact slv; rotate_left; exact sla
                refine pure_ (i := 14) (N := some 139) (v := ?_) (a' := ?_) #[tt,tt,tt,tt,tt,tt,tt,tt,tt,tt,tt,tt,tt,tt,tt,ff,ff,ff,ff,ff,ff,ff,ff,ff,ff,ff,ff,ff,ff,ff,ff,ff] rfl rfl (any_of HT_.out (by kernel_rfl)) (fun _ _ _ h => h) (Or.inl ⟨by rfl, ?_⟩) ?_ ?_
                rotate_left; exact slv; rotate_left; exact sla
                refine pure_ (i := 15) (N := some 140) (v := undef) (a' := ?_) #[tt,tt,tt,tt,tt,tt,tt,tt,tt,tt,tt,tt,tt,tt,tt,tt,ff,ff,ff,ff,ff,ff,ff,ff,ff,ff,ff,ff,ff,ff,ff,ff] rfl rfl (any_of HT_.out (by kernel_rfl)) (fun _ _ _ h => h) (Or.inr ⟨by rfl, rfl⟩) ?_ ?_
                rotate_left
                · exact sla
                refine pure_ (i := 16) (N := some 141) (v := undef) (a' := ?_) #[tt,tt,tt,tt,tt,tt,tt,tt,tt,tt,tt,tt,tt,tt,tt,tt,tt,ff,ff,ff,ff,ff,ff,ff,ff,ff,ff,ff,ff,ff,ff,ff] rfl rfl (any_of HT_.out (by kernel_rfl)) (fun _ _ _ h => h) (Or.inr ⟨by rfl, rfl⟩) ?_ ?_
                rotate_left
                · exact sla
                refine pure_ (i := 17) (N := some 142) (v := undef) (a' := ?_) #[tt,tt,tt,tt,tt,tt,tt,tt,tt,tt,tt,tt,tt,tt,tt,tt,tt,tt,ff,ff,ff,ff,ff,ff,ff,ff,ff,ff,ff,ff,ff,ff] rfl rfl (any_of HT_.out (by kernel_rfl)) (fun _ _ _ h => h) (Or.inr ⟨by rfl, rfl⟩) ?_ ?_
                rotate_left
                · exact sla
                refine pure_ (i := 18) (N := some 143) (v := undef) (a' := ?_) #[tt,tt,tt,tt,tt,tt,tt,tt,tt,tt,tt,tt,tt,tt,tt,tt,tt,tt,tt,ff,ff,ff,ff,ff,ff,ff,ff,ff,ff,ff,ff,ff] rfl rfl (any_of HT_.out (by kernel_rfl)) (fun _ _ _ h => h) (Or.inr ⟨by rfl, rfl⟩) ?_ ?_
                rotate_left
                · exact sla
                refine pure_ (i := 19) (N := some 144) (v := undef) (a' := ?_) #[tt,tt,tt,tt,tt,tt,tt,tt,tt,tt,tt,tt,tt,tt,tt,tt,tt,tt,tt,tt,ff,ff,ff,ff,ff,ff,ff,ff,ff,ff,ff,ff] rfl rfl (any_of HT_.out (by kernel_rfl)) (fun _ _ _ h => h) (Or.inr ⟨by rfl, rfl⟩) ?_ ?_
                rotate_left
                · exact sla
                refine pure_ (i := 20) (N := some 145) (v := undef) (a' := ?_) #[tt,tt,tt,tt,tt,tt,tt,tt,tt,tt,tt,tt,tt,tt,tt,tt,tt,tt,tt,tt,tt,ff,ff,ff,ff,ff,ff,ff,ff,ff,ff,ff] rfl rfl (any_of HT_.out (by kernel_rfl)) (fun _ _ _ h => h) (Or.inr ⟨by rfl, rfl⟩) ?_ ?_
                rotate_left
                · exact sla
                refine pure_ (i := 21) (N := some 146) (v := undef) (a' := ?_) #[tt,tt,tt,tt,tt,tt,tt,tt,tt,tt,tt,tt,tt,tt,tt,tt,tt,tt,tt,tt,tt,tt,ff,ff,ff,ff,ff,ff,ff,ff,ff,ff] rfl rfl (any_of HT_.out (by kernel_rfl)) (fun _ _ _ h => h) (Or.inr ⟨by rfl, rfl⟩) ?_ ?_
                rotate_left
                · exact sla
                refine pure_ (i := 22) (N := some 147) (v := undef) (a' := ?_) #[tt,tt,tt,tt,tt,tt,tt,tt,tt,tt,tt,tt,tt,tt,tt,tt,tt,tt,tt,tt,tt,tt,tt,ff,ff,ff,ff,ff,ff,ff,ff,ff] rfl rfl (any_of HT_.out (by kernel_rfl)) (fun _ _ _ h => h) (Or.inr ⟨by rfl, rfl⟩) ?_ ?_
                rotate_left
                · exact sla
                refine pure_ (i := 23) (N := some 148) (v := undef) (a' := ?_) #[tt,tt,tt,tt,tt,tt,tt,tt,tt,tt,tt,tt,tt,tt,tt,tt,tt,tt,tt,tt,tt,tt,tt,tt,ff,ff,ff,ff,ff,ff,ff,ff] rfl rfl (any_of HT_.out (by kernel_rfl)) (fun _ _ _ h => h) (Or.inr ⟨by rfl, rfl⟩) ?_ ?_
                rotate_left
                · exact sla
                refine pure_ (i := 24) (N := some 149) (v := undef) (a' := ?_) #[tt,tt,tt,tt,tt,tt,tt,tt,tt,tt,tt,tt,tt,tt,tt,tt,tt,tt,tt,tt,tt,tt,tt,tt,tt,ff,ff,ff,ff,ff,ff,ff] rfl rfl (any_of HT_.out (by kernel_rfl)) (fun _ _ _ h => h) (Or.inr ⟨by rfl, rfl⟩) ?_ ?_
                rotate_left
                · exact sla
                refine pure_ (i := 25) (N := some 150) (v := undef) (a' := ?_) #[tt,tt,tt,tt,tt,tt,tt,tt,tt,tt,tt,tt,tt,tt,tt,tt,tt,tt,tt,tt,tt,tt,tt,tt,tt,tt,ff,ff,ff,ff,ff,ff] rfl rfl (any_of HT_.out (by kernel_rfl)) (fun _ _ _ h => h) (Or.inr ⟨by rfl, rfl⟩) ?_ ?_
                rotate_left
                · exact sla
                refine pure_ (i := 26) (N := some 151) (v := undef) (a' := ?_) #[tt,tt,tt,tt,tt,tt,tt,tt,tt,tt,tt,tt,tt,tt,tt,tt,tt,tt,tt,tt,tt,tt,tt,tt,tt,tt,tt,ff,ff,ff,ff,ff] rfl rfl (any_of HT_.out (by kernel_rfl)) (fun _ _ _ h => h) (Or.inr ⟨by rfl, rfl⟩) ?_ ?_
                rotate_left
                · exact sla
                refine pure_ (i := 27) (N := some 152) (v := undef) (a' := ?_) #[tt,tt,tt,tt,tt,tt,tt,tt,tt,tt,tt,tt,tt,tt,tt,tt,tt,tt,tt,tt,tt,tt,tt,tt,tt,tt,tt,tt,ff,ff,ff,ff] rfl rfl (any_of HT_.out (by kernel_rfl)) (fun _ _ _ h => h) (Or.inr ⟨by rfl, rfl⟩) ?_ ?_
                rotate_left
                · exact sla
                refine pure_ (i := 28) (N := some 153) (v := ?_) (a' := ?_) #[tt,tt,tt,tt,tt,tt,tt,tt,tt,tt,tt,tt,tt,tt,tt,tt,tt,tt,tt,tt,tt,tt,tt,tt,tt,tt,tt,tt,tt,ff,ff,ff] rfl rfl (any_of HT_.out (by kernel_rfl)) (fun _ _ _ h => h) (Or.inl ⟨by rfl, ?_⟩) ?_ ?_
                rotate_left; exact slv; rotate_left; exact sla
                refine pure_ (i := 29) (N := some 154) (v := ?_) (a' := ?_) #[tt,tt,tt,tt,tt,tt,tt,tt,tt,tt,tt,tt,tt,tt,tt,tt,tt,tt,tt,tt,tt,tt,tt,tt,tt,tt,tt,tt,tt,tt,ff,ff] rfl rfl (any_of HT_.out (by kernel_rfl)) (fun _ _ _ h => h) (Or.inl ⟨by rfl, ?_⟩) ?_ ?_
                rotate_left; exact slv; rotate_left; exact sla
                refine pure_ (i := 30) (N := some 155) (v := ?_) (a' := ?_) #[tt,tt,tt,tt,tt,tt,tt,tt,tt,tt,tt,tt,tt,tt,tt,tt,tt,tt,tt,tt,tt,tt,tt,tt,tt,tt,tt,tt,tt,tt,tt,ff] rfl rfl (any_of HT_.out (by kernel_rfl)) (fun _ _ _ h => h) (Or.inl ⟨by rfl, ?_⟩) ?_ ?_
                rotate_left; exact slv; rotate_left; exact sla
                refine last_ (i := 31) (N := none) #[tt,tt,tt,tt,tt,tt,tt,tt,tt,tt,tt,tt,tt,tt,tt,tt,tt,tt,tt,tt,tt,tt,tt,tt,tt,tt,tt,tt,tt,tt,tt,tt] rfl rfl (one_of HT_.out (by kernel_rfl)) (by decide) (fun K hK => ?_)
                have hc1 := (came_at HR8.out t ht0 htn).1
                have hf1 := (came_at HR8.out t ht0 htn).2
                refine skip_ (w1 := (w8.setCell ⟨gc, t.toNat, none⟩ (.bool false))) (by rfl) rfl ?_ ?_
                · first | (go_simp; done) | (go_simp; rfl)
                clear hc1 hf1
                have HR9 := Aside0.mk (came_put HR8.out t false)
                have HCG : Chg (fun k => k = gc) w8 (w8.setCell ⟨gc, t.toNat, none⟩ (.bool false)) := Chg.setCell (F := (fun k => k = gc)) (Chg.refl _ w8) (p := ⟨gc, t.toNat, none⟩) (Or.inl rfl) _
                have HS9 := Aside0.mk (HS8.out.chg HCG (F' := fun k => k = gc) (fun k hk => Or.inl hk))
                have HB9 : Aside0 (Below w4.heap.size w4 (w8.setCell ⟨gc, t.toNat, none⟩ (.bool false))) := ⟨HB8.out.setCell HGC.out _⟩
                clear HR8 HS8 HB8 HCG
                generalize w8.setCell ⟨gc, t.toNat, none⟩ (.bool false) = w9 at HR9 HS9 HB9 ⊢
                refine hK.out _ _ ?_
                clear hK K
                refine done_ (done_of HT_.out (by kernel_rfl)) ?_
                try clear hHeld
                try clear hw1
                have hwk := HWK.out
                go_wp2_with (first | fail | ((with_reducible refine gate_upon ?_); go_simp))
                go_roundg gk3
                case measure => first | exact Nat.lt_succ_self _ | omega
                case rel => exact ⟨k + 1, b.set t.toNat false, rfl, by first | rfl | (simp; done) | (rw [hwk]; done) | (rw [hwk]; rfl), HK1, HR9, HSQ, HS9, HB9⟩
end Go.Proofs.Ytgbfhhmmkhjhhaa.Paths
