/- Paths: the shortest way. Conditions: those that stand in each theorem. Written by wip/gen/netway.py. -/
import Derived.Test.YtgbfhhmmkhjhhaaCPathsB
import Derived.Test.YtgbfhhmmkhjhhaaCSl
namespace Go.Proofs.Ytgbfhhmmkhjhhaa.Paths
open Go.RowKit Go.Proofs.YtgbfhhmmkhjhhaaW.PrintWords Go.Proofs.YtgbfhhmmkhjhhaaW.PrintLast Go.Proofs.YtgbfhhmmkhjhhaaW.PrintMore Go.Proofs.Ytgbfhhmmkhjhhaa.HeapW Go.Proofs.Ytgbfhhmmkhjhhaa.HeapP Go.Proofs.Ytgbfhhmmkhjhhaa.MapAt Go.Proofs.Ytgbfhhmmkhjhhaa.Dij
open Go.Proofs.Ytgbfhhmmkhjhhaa.HeapIR hiding It Pt kIt_K infoZ reps_single
open Go.Proofs.Ytgbfhhmmkhjhhaa.Roads (flat_keep R_ty Flat kRd rd_at NetS outOf isN isN_iff isN_no Hd encH kHd flatHd flatRd keep_row keep_blk set_get reps_single)
set_option linter.unusedVariables false
set_option linter.unusedSimpArgs false
/-- the costs to a node -/
structure DistTo (n : Nat) (outf : Int → List Rd) (tv : Int) (c : List Int) : Prop where
  len : c.length = n
  ge : ∀ v : Int, 0 ≤ v → -1 ≤ cv c v
  st : cv c tv = 0
  over : ∀ (v : Int) (r : Rd), 0 ≤ v → v < n → r ∈ outf v → 0 ≤ cv c r.2.1 → 0 ≤ cv c v ∧ cv c v ≤ cv c r.2.1 + r.2.2
  by_ : ∀ v : Int, 0 ≤ v → v < n → 0 ≤ cv c v → v ≠ tv → ∃ r ∈ outf v, 0 ≤ cv c r.2.1 ∧ cv c v = cv c r.2.1 + r.2.2
  most : ∀ v : Int, 0 ≤ v → v < n → cv c v ≤ 1048576 * (n : Int)
theorem ins_mem {n : Nat} {out : List (List Rd)} {ins : List (List Rd)} (h : RevInv n out n 0 ins) {v : Int} (h0 : 0 ≤ v) (h1 : v < n) (r : Rd) : r ∈ insOf ins v ↔ ∃ (j : Nat) (r0 : Rd), j < n ∧ r0 ∈ outOf out j ∧ r0.2.1 = v ∧ r = (v, (j : Int), r0.2.2) := by
  have hl : v.toNat < ins.length := by rw [h.len]; omega
  have e : insOf ins v = ins[v.toNat] := by
    unfold insOf
    rw [List.getD_eq_getElem?_getD, List.getElem?_eq_getElem hl]
    rfl
  rw [e, h.mem v.toNat _ (List.getElem?_eq_getElem hl) r]
  have ev : ((v.toNat : Nat) : Int) = v := by omega
  rw [ev]
  constructor
  · rintro ⟨j, r0, (⟨h2, h3⟩ | ⟨_, h3⟩), q1, q2⟩
    · exact ⟨j, r0, h2, h3, q1, q2⟩
    · simp at h3
  · rintro ⟨j, r0, h2, h3, q1, q2⟩
    exact ⟨j, r0, Or.inl ⟨h2, h3⟩, q1, q2⟩
theorem dist_to {n : Nat} {out : List (List Rd)} (hG : Roads.Good n out) (hon : out.length = n) {ins : List (List Rd)} (h : RevInv n out n 0 ins) {tv : Int} {c : List Int} (hd : Dist n (insOf ins) tv c) : DistTo n (outOf out) tv c where
  len := hd.len
  ge := hd.ge
  st := hd.st
  over v r h0 h1 hr hc := by
    have hn := (net_of hG hon).road v r h0 h1 hr
    have := hd.over r.2.1 (r.2.1, v, r.2.2) hn.1 hn.2.1 hc ((ins_mem h hn.1 hn.2.1 _).2 ⟨v.toNat, r, by omega, by rw [show ((v.toNat : Nat) : Int) = v by omega]; exact hr, rfl, by rw [show ((v.toNat : Nat) : Int) = v by omega]⟩)
    exact this
  by_ v h0 h1 hc hv := by
    obtain ⟨u, u0, u1, u2, r, hr, e1, e2⟩ := hd.by_ v h0 h1 hc hv
    obtain ⟨j, r0, hj, hr0, q1, rfl⟩ := (ins_mem h u0 u1 r).1 hr
    have ej : (j : Int) = v := e1
    rw [ej] at hr0
    exact ⟨r0, hr0, by rw [q1]; exact u2, by rw [q1]; exact e2⟩
  most := hd.most
theorem asks_back {w : World} {base gi go oc n : Nat} {hs : List Hd} {ins : List (List Rd)} (h : InAt w base gi go oc n hs ins) {out : List (List Rd)} (hG : Roads.Good n out) (hon : out.length = n) (hn : n ≤ 4096) (hr : RevInv n out n 0 ins) : Asks w n 40 #[] #[.pointer (some ⟨gi, 0, none⟩)] (insOf ins) where
  fn := ⟨_, Try.func40, by kernel_rfl, by kernel_rfl⟩
  calls W hW v h0 h1 := by
    have hW2 := h.below hW
    refine (back1_calls hW2 v h0 h1).mono ?_
    rintro e w' ⟨⟨A, c, rfl, hq, hR⟩, rfl⟩
    obtain ⟨_, hlc, hC⟩ := Kd.R_reads' hR
    refine ⟨A, c, rfl, hC, hlc, Below.refl _ _, fun a ha => ?_⟩
    have hl : v.toNat < ins.length := by rw [h.len.2]; omega
    have := (h.rows v.toNat _ _ hq (List.getElem?_eq_getElem hl)).2
    subst ha
    have h2 := Kd.R_lt this a.block (by simp [encH, Value.ownBlock])
    exact ⟨Or.inl h2, Nat.lt_of_lt_of_le h2 hW.size⟩
  net := ⟨fun u r h0 h1 hr0 => by
    obtain ⟨j, r0, hj, hr1, q1, rfl⟩ := (ins_mem hr h0 h1 r).1 hr0
    have := (net_of hG hon).road (j : Int) r0 (by omega) (by omega) hr1
    exact ⟨by show 0 ≤ (j : Int); omega, by show (j : Int) < n; omega, this.2.2.1, this.2.2.2⟩⟩
  len v h0 h1 := by
    have hl : v.toNat < ins.length := by rw [h.len.2]; omega
    have := hr.short (Nat.le_refl _) (fun _ => rfl) (List.getElem?_eq_getElem hl)
    unfold insOf
    rw [List.getD_eq_getElem?_getD, List.getElem?_eq_getElem hl]
    simp only [Option.getD_some]
    omega
/-- a road by which it goes on -/
def Cand (c : List Int) (u : Int) (x : Rd) : Prop := 0 ≤ cv c x.2.1 ∧ cv c x.2.1 + x.2.2 = cv c u
/-- the way that is answered: by the least node that is on a shortest way -/
inductive WayR (outf : Int → List Rd) (c : List Int) (tv : Int) : Int → List Int → Prop
  | stop : WayR outf c tv tv [tv]
  | go {u nx : Int} {l : List Int} (hu : u ≠ tv) (h1 : ∃ x ∈ outf u, Cand c u x ∧ x.2.1 = nx) (h2 : ∀ y ∈ outf u, Cand c u y → nx ≤ y.2.1) (h3 : WayR outf c tv nx l) : WayR outf c tv u (u :: l)
/-- the least node so far -/
def NxInv (c : List Int) (u : Int) (row : List Rd) (k : Nat) (nx : Int) : Prop := (nx = -1 ∧ ∀ y ∈ row.take k, ¬ Cand c u y) ∨ ∃ x ∈ row.take k, Cand c u x ∧ (x.2.1 = nx ∧ 0 ≤ nx) ∧ ∀ y ∈ row.take k, Cand c u y → nx ≤ y.2.1
theorem take_more {row : List Rd} {k : Nat} {x y : Rd} (hx : row[k]? = some x) : y ∈ row.take (k + 1) ↔ y ∈ row.take k ∨ y = x := by
  rw [List.take_add_one, hx, List.mem_append]
  simp
theorem NxInv.no {c : List Int} {u : Int} {row : List Rd} {k : Nat} {nx : Int} (h : NxInv c u row k nx) {x : Rd} (hx : row[k]? = some x) (hn : ¬ Cand c u x ∨ (0 ≤ nx ∧ nx ≤ x.2.1)) : NxInv c u row (k + 1) nx := by
  rcases h with ⟨h1, h2⟩ | ⟨z, h1, h2, h3, h4⟩
  · left
    refine ⟨h1, fun y hy => ?_⟩
    rcases (take_more hx).1 hy with q | rfl
    · exact h2 y q
    · rcases hn with q | q
      · exact q
      · omega
  · right
    refine ⟨z, (take_more hx).2 (Or.inl h1), h2, h3, fun y hy hc => ?_⟩
    rcases (take_more hx).1 hy with q | rfl
    · exact h4 y q hc
    · rcases hn with q | q
      · exact absurd hc q
      · exact q.2
theorem NxInv.yes {c : List Int} {u : Int} {row : List Rd} {k : Nat} {nx : Int} (h : NxInv c u row k nx) {x : Rd} (hx : row[k]? = some x) (hc : Cand c u x) (hn : nx < 0 ∨ x.2.1 < nx) (h0 : 0 ≤ x.2.1) : NxInv c u row (k + 1) x.2.1 := by
  right
  refine ⟨x, (take_more hx).2 (Or.inr rfl), hc, ⟨rfl, h0⟩, fun y hy hcy => ?_⟩
  rcases (take_more hx).1 hy with q | rfl
  · rcases h with ⟨h1, h2⟩ | ⟨z, h1, h2, h3, h4⟩
    · exact absurd hcy (h2 y q)
    · have := h4 y q hcy
      rcases hn with e | e
      · omega
      · omega
  · exact Int.le_refl _
theorem NxInv.done {c : List Int} {u : Int} {row : List Rd} {k : Nat} {nx : Int} (h : NxInv c u row k nx) (hk : row.length ≤ k) (he : ∃ x ∈ row, Cand c u x) : (∃ x ∈ row, Cand c u x ∧ x.2.1 = nx) ∧ ∀ y ∈ row, Cand c u y → nx ≤ y.2.1 := by
  unfold NxInv at h
  rw [List.take_of_length_le hk] at h
  rcases h with ⟨h1, h2⟩ | ⟨z, h1, h2, h3, h4⟩
  · obtain ⟨x, hx, hc⟩ := he
    exact absurd hc (h2 x hx)
  · exact ⟨⟨z, h1, h2, h3.1⟩, h4⟩
theorem checkP_two (n : Nat) (u v : Int) : checkP n [u, v] = if (isN n u && isN n v) = true then 0 else 131 := by
  unfold checkP
  simp
set_option maxHeartbeats 3200000 in
theorem way_none (u v : Int) (w : World) : Calls Try.prog 14 #[.pointer none, .int .i64 u, .int .i64 v] w fun e w' => e = .returned (.tuple #[.slice none 0 0, .int .i64 0, .int .i64 2]) ∧ Below w.heap.size w w' := by
  have HB : Aside0 (Below w.heap.size w (w.alloc (.cells #[.int .i64 u, .int .i64 v] 3))) := ⟨below_alloc (Below.refl _ _) _⟩
  go_enter Try.func14, Try.ntmps14
  go_wp2_with fail
  refine (check_none _ _ _ _).mono ?_
  rintro e w1 ⟨rfl, hw1⟩
  have HB1 : Aside0 (Below w.heap.size w w1) := ⟨by rw [hw1]; exact HB.out⟩
  clear hw1
  go_wp2
  refine bodyPost_ret (results_list (rs := [.tmp 6, .tmp 7, .tmp 8]) rfl (by simp) (.tmp (.tmp (.tmp .nil)))) rfl ?_
  exact ⟨rfl, HB1.out⟩
def way.T14 : Bool × List (List Nat × List Nat) := (true, [([], []), ([], []), ([1], [1]), ([0, 2], [0, 2]), ([3], [3]), ([4], [4]), ([5], [5]), ([6], [6]), ([6], [6]), ([8, 6], [6, 8]), ([7, 9, 6], [6, 7, 9]), ([10, 6], [6, 10]), ([6], [6]), ([12, 6], [6, 12]), ([11, 13, 6], [6, 11, 13]), ([6], [6]), ([6], [6]), ([15, 16, 6], [6, 15, 16]), ([17, 6], [6, 17]), ([14, 18, 6], [6, 14, 18]), ([6, 19], [6, 19]), ([20, 6], [20]), ([21], [21]), ([22, 21], [21, 22]), ([23, 21, 21], [21, 23]), ([24], [24]), ([25, 24], [24, 25]), ([24], [24]), ([26, 27, 24], [24, 26, 27]), ([24, 28, 21], [21, 24, 28]), ([21, 29], [21, 29])])
def way.B14 : List Nat := [0, 0, 2, 7, 15, 31, 63, 127, 127, 383, 1023, 2047, 127, 4223, 16383, 127, 127, 98431, 229503, 524287, 1048575, 2097151, 4194303, 8388607, 16777215, 33554431, 67108863, 33554431, 268435455, 536870911, 1073741823]
theorem way.tab14 : rtab .any (opsOf Try.f14 14) = way.T14 := by kernel_rfl
theorem way.bits14 : waitsOk way.T14.2 way.B14 = true := by kernel_rfl
def way.T19 : Bool × List (List Nat × List Nat) := (true, [([], []), ([], []), ([], []), ([1, 2], [1, 2]), ([3], [3]), ([0, 0], [0]), ([4, 5, 0, 1, 2, 3, 4, 5], [4]), ([6, 0, 1, 2, 3, 4, 5, 6], [])])
def way.B19 : List Nat := [0, 0, 0, 6, 14, 1, 63, 127]
theorem way.tab19 : rtab .any (opsOf Try.f14 19) = way.T19 := by kernel_rfl
theorem way.bits19 : waitsOk way.T19.2 way.B19 = true := by kernel_rfl
set_option maxHeartbeats 16000000 in
set_option maxRecDepth 100000 in
theorem way_calls {w : World} {base g : Nat} {ps : List Roads.Pt} {out : List (List Rd)} {F : Nat → Prop} (h : NetS w base g ps out F) (hb : base ≤ w.heap.size) (fr tv : Int) :
    Calls Try.prog 14 #[.pointer (some ⟨g, 0, none⟩), .int .i64 fr, .int .i64 tv] w fun e w' => Below w.heap.size w w' ∧ (((isN out.length fr && isN out.length tv) = false ∧ e = .returned (.tuple #[.slice none 0 0, .int .i64 0, .int .i64 131])) ∨ ((isN out.length fr && isN out.length tv) = true ∧ ∃ c : List Int, DistTo out.length (outOf out) tv c ∧ ((cv c fr < 0 ∧ e = .returned (.tuple #[.slice none 0 0, .int .i64 0, .int .i64 131])) ∨ (0 ≤ cv c fr ∧ ∃ (A : Option Addr) (cc : Nat) (l : List Int), e = .returned (.tuple #[.slice A l.length cc, .int .i64 (cv c fr), .int .i64 0]) ∧ kInt.R 3 w' w.heap.size (fun _ => True) (.slice A l.length cc) l ∧ WayR (outOf out) c tv fr l)))) := by
  have H := Aside0.mk h
  have HB := Aside0.mk hb
  have HL := Aside0.mk h.len
  have HG := Aside0.mk h.good
  obtain ⟨wb, hwb⟩ : ∃ wb, wb = w.alloc (.cells #[.int .i64 fr, .int .i64 tv] 3) := ⟨_, rfl⟩
  have HBB : Aside0 (Below w.heap.size w wb) := ⟨by rw [hwb]; exact below_alloc (Below.refl _ _) _⟩
  have HX : Aside0 (wb.heap[w.heap.size]? = some (.cells #[.int .i64 fr, .int .i64 tv] 3 (0, 0))) := ⟨by rw [hwb]; exact blk_new _ _⟩
  have HS := Aside0.mk (H.out.below HBB.out)
  have HC : Aside0 (Kd.C kInt wb (some ⟨w.heap.size, 0, none⟩) 2 [fr, tv]) := ⟨c_of_box (cs := [fr, tv]) HX.out rfl (by simp)⟩
  have HCH := Aside0.mk (check_calls HS.out (Nat.le_trans hb HBB.out.size) (some ⟨w.heap.size, 0, none⟩) 2 [fr, tv] HC.out (by simp))
  have HWB := Aside0.mk hwb
  rw [hwb] at HCH
  clear h hb hwb
  go_enter Try.func14, Try.ntmps14
  go_wp2_with fail
  refine HCH.out.mono ?_
  rintro e w1 ⟨rfl, hb1⟩
  have HB1 : Aside0 (Below w.heap.size w w1) := ⟨below_step HBB.out (by rw [HWB.out]; exact hb1)⟩
  have HS1 := Aside0.mk (H.out.below HB1.out)
  rw [checkP_two]
  clear hb1
  cases hv : (isN out.length fr && isN out.length tv) with
  | false =>
    have HV := Aside0.mk hv
    clear hv
    rw [if_neg (by simp)]
    go_wp2
    refine bodyPost_ret (results_list (rs := [.tmp 6, .tmp 7, .tmp 8]) rfl (by simp) (.tmp (.tmp (.tmp .nil)))) rfl ?_
    exact ⟨HB1.out, Or.inl ⟨HV.out, rfl⟩⟩
  | true =>
   as_aux_lemma =>
    have HV : Aside0 (isN out.length fr = true ∧ isN out.length tv = true) := ⟨by rwa [Bool.and_eq_true] at hv⟩
    clear hv
    rw [if_pos rfl]
    have HFT : Aside0 ((0 ≤ fr ∧ fr < out.length) ∧ 0 ≤ tv ∧ tv < out.length) := ⟨isN_iff.1 HV.out.1, isN_iff.1 HV.out.2⟩
    go_wp2_with fail
    refine HS1.out.nodes.mono ?_
    rintro e w2 ⟨rfl, hw1⟩
    have hw2 := hw1.symm
    clear hw1
    subst hw2
    go_wp2_with fail
    refine (back_calls HS1.out (by have := HFT.out; omega)).mono ?_
    rintro e w2 ⟨gi, go, oc, hs, ins, rfl, hin, hrv, hb2⟩
    have HRV := Aside0.mk hrv
    have HB2 := Aside0.mk (below_step HB1.out hb2)
    have HAS := Aside0.mk (asks_back hin HG.out rfl (by have := HL.out; omega) hrv)
    clear hin hrv hb2
    go_wp2_with fail
    refine (costs_calls out.length tv 40 #[] #[.pointer (some ⟨gi, 0, none⟩)] (insOf ins) w2 HAS.out (by have := HL.out; omega) HFT.out.2).mono ?_
    rintro e w3 ⟨A, cc, ov, c, o, rfl, hc, ho, hd, hord, hb3⟩
    have HD : Aside0 (DistTo out.length (outOf out) tv c) := ⟨dist_to HG.out rfl HRV.out hd⟩
    have HB3 := Aside0.mk (below_step HB2.out hb3)
    obtain ⟨gl, cap, hA, hg1, hg2, _⟩ := Kd.R_form hc (by rw [hd.len]; have := HFT.out; omega)
    rw [hd.len] at hA
    simp only [Value.slice.injEq] at hA
    obtain ⟨rfl, -, rfl⟩ := hA
    have HRL := Aside0.mk (Kd.R_lower hc HB2.out.size)
    obtain ⟨zf, hzf⟩ : ∃ zf, zf = cv c fr := ⟨_, rfl⟩
    have HZF := Aside0.mk hzf
    have hcf : w3.cell? ⟨gl, fr.toNat, none⟩ = some (.int .i64 zf) := by
      rw [hzf]
      exact (Kd.R_celln (n := out.length) (d := (-1 : Int)) hc fr HFT.out.1.1 HFT.out.1.2).1
    have hf0 : 0 ≤ fr := HFT.out.1.1
    have hfn : fr < out.length := HFT.out.1.2
    clear hc ho hd hord hb3 hg1 hg2 hzf HB2 HAS HRV
    by_cases hz0 : zf < 0
    · have hdz : decide (zf < 0) = true := decide_eq_true hz0
      have HZ0 := Aside0.mk hz0
      clear hz0
      go_wp2
      refine bodyPost_ret (results_list (rs := [.tmp 6, .tmp 7, .tmp 8]) rfl (by simp) (.tmp (.tmp (.tmp .nil)))) rfl ?_
      exact ⟨HB3.out, Or.inr ⟨by rw [HV.out.1, HV.out.2]; rfl, c, HD.out, Or.inl ⟨by rw [← HZF.out]; exact HZ0.out, rfl⟩⟩⟩
    · as_aux_lemma =>
      have hdz : decide (zf < 0) = false := decide_eq_false hz0
      have HZ0 : Aside0 (0 ≤ zf) := ⟨by omega⟩
      clear hz0
      go_upto_region 7 with (fail)
      clear hcf
      go_wp2_with ((with_reducible refine gate_dst (N := 40) rfl ?_); refine Kd.R_lit kInt (w0 := w) w.heap.size 3 rfl (N := 40) rfl (xs := [fr]) (inner := [.int .i64 fr]) (ok := fun k => k ≠ gl) (okp := fun _ => False) (by first | (go_simp; done) | (go_simp; rfl)) (reps_single rfl rfl) (fun _ hk => hk.elim) (by have := Kd.R_lt HRL.out gl (by simp [Value.ownBlock]); omega) HB3.out HB3.out.size (by simp) ?_; intro v4 w4 ho hb4 hg4 _; have HRN := Aside0.mk ho; have HRL4 : Aside0 (kInt.R 3 w4 w.heap.size (fun _ => True) (.slice (some ⟨gl, 0, none⟩) out.length cc) c) := ⟨flat_keep flatInt HRL.out (fun k hk => hg4.block k (Kd.R_lt HRL.out k hk) (by simp)) (fun _ _ => trivial)⟩; have HB4 := Aside0.mk hb4; clear ho hb4 hg4 HRL HB3)
      go_wp2_with ((with_reducible refine gate_upon ?_); go_simp)
      go_loopg [12, 13] (zf.toNat + 1) (fun kq v12 v13 w' => ∃ (u : Int) (p : List Int), v13 = .int .i64 u ∧ Aside0 ((0 ≤ u ∧ u < out.length) ∧ 0 ≤ cv c u ∧ cv c u < kq) ∧ Aside0 (kInt.R 3 w' w.heap.size (fun k => k ≠ gl) v12 (p ++ [u])) ∧ Aside0 ((p.length : Int) + cv c u ≤ zf) ∧ Aside0 (∀ l, WayR (outOf out) c tv u l → WayR (outOf out) c tv fr (p ++ l)) ∧ Aside0 (kInt.R 3 w' w.heap.size (fun _ => True) (.slice (some ⟨gl, 0, none⟩) out.length cc) c) ∧ Aside0 (Below w.heap.size w w'))
      case atStart => exact ⟨fr, [], rfl, ⟨⟨HFT.out.1, by rw [← HZF.out]; exact HZ0.out, by rw [← HZF.out]; have := HZ0.out; omega⟩⟩, HRN, ⟨by rw [← HZF.out]; simp⟩, ⟨fun l hl => hl⟩, HRL4, HB4⟩
      case round =>
       as_aux_lemma =>
        clear HRN HRL4 HB4
        obtain ⟨u, p, rfl, HU, HRN, HPL, HWY, HRL, HBW⟩ := hrel
        by_cases hut : u = tv
        · have hd : (u == tv) = true := by rw [beq_iff_eq]; exact hut
          have hd2 : (u != tv) = false := by rw [bne, hd]; rfl
          have HUT := Aside0.mk hut
          clear hut
          go_wp2_with (fail)
          have hcf : wr.cell? ⟨gl, fr.toNat, none⟩ = some (.int .i64 zf) := by
            rw [HZF.out]
            exact (Kd.R_celln (n := out.length) (d := (-1 : Int)) HRL.out fr HFT.out.1.1 HFT.out.1.2).1
          refine start_ (n := 8) (S := fun w' => w'.cell? ⟨gl, fr.toNat, none⟩ = some (.int .i64 zf)) (ds := []) #[ff,ff,ff,ff,ff,ff,ff,ff] (by kernel_rfl) rfl rfl (hcf) (fun hHeld => ?_)
          refine with_tabW way.tab19 way.bits19 (fun HT_ HW_ => ?_)
          refine pure_ (i := 0) (N := some 92) (v := ?_) (a' := ?_) #[tt,ff,ff,ff,ff,ff,ff,ff] rfl rfl (any_of HT_.out (by kernel_rfl)) (fun _ _ _ h => h) (Or.inl ⟨by rfl, ?_⟩) ?_ ?_
          rotate_left; exact slv; rotate_left; exact sla
          refine pure_ (i := 1) (N := some 93) (v := ?_) (a' := ?_) #[tt,tt,ff,ff,ff,ff,ff,ff] rfl rfl (any_of HT_.out (by kernel_rfl)) (fun _ _ _ h => h) (Or.inl ⟨by rfl, ?_⟩) ?_ ?_
          rotate_left; exact slv; rotate_left; exact sla
          refine pure_ (i := 2) (N := some 94) (v := ?_) (a' := ?_) #[tt,tt,tt,ff,ff,ff,ff,ff] rfl rfl (any_of HT_.out (by kernel_rfl)) (fun _ _ _ h => h) (Or.inl ⟨by rfl, ?_⟩) ?_ ?_
          rotate_left; exact slv; rotate_left; exact sla
          refine pure_ (i := 3) (N := some 95) (v := ?_) (a' := ?_) #[tt,tt,tt,tt,ff,ff,ff,ff] rfl rfl (any_of HT_.out (by kernel_rfl)) (fun _ _ _ h => h) (Or.inl ⟨by rfl, ?_⟩) ?_ ?_
          rotate_left; exact slv; rotate_left; exact sla
          refine pure_ (i := 5) (N := some 6) (v := ?_) (a' := ?_) #[tt,tt,tt,tt,ff,tt,ff,ff] rfl rfl (any_of HT_.out (by kernel_rfl)) (fun _ _ _ h => h) (Or.inl ⟨by rfl, ?_⟩) ?_ ?_
          rotate_left; exact slv; rotate_left; exact sla
          refine take_ (i := 4) (N := some 96) (v := ?_) (a' := ?_) #[tt,tt,tt,tt,tt,tt,ff,ff] rfl rfl (take_ofW HT_.out HW_.out (by kernel_rfl)) (fun _ _ _ h => h) (Or.inl ⟨by rfl, ?_⟩) hHeld ?_ ?_
          rotate_left
          · intro w' s0
            go_simp
            with_reducible rfl
          rotate_left
          · exact sla
          refine pure_ (i := 6) (N := some 7) (v := ?_) (a' := ?_) #[tt,tt,tt,tt,tt,tt,tt,ff] rfl rfl (any_of HT_.out (by kernel_rfl)) (fun _ _ _ h => h) (Or.inl ⟨by rfl, ?_⟩) ?_ ?_
          rotate_left; exact slv; rotate_left; exact sla
          refine pure_ (i := 7) (N := some 8) (v := ?_) (a' := ?_) #[tt,tt,tt,tt,tt,tt,tt,tt] rfl rfl (any_of HT_.out (by kernel_rfl)) (fun _ _ _ h => h) (Or.inl ⟨by rfl, ?_⟩) ?_ ?_
          rotate_left; exact slv; rotate_left; exact sla
          refine done_ (done_of HT_.out (by kernel_rfl)) ?_
          try clear hHeld
          go_wp2
          obtain ⟨A9, c9, e9⟩ := Kd.R_slice HRN.out
          refine bodyPost_ret (results_list (rs := [.tmp 6, .tmp 7, .tmp 8]) rfl (by simp) (.tmp (.tmp (.tmp .nil)))) rfl ?_
          refine ⟨below_drew HBW.out, Or.inr ⟨by rw [HV.out.1, HV.out.2]; rfl, c, HD.out, Or.inr ⟨by rw [← HZF.out]; exact HZ0.out, A9, c9, p ++ [u], ?_, ?_, ?_⟩⟩⟩
          · rw [← HZF.out, ← e9]; rfl
          · have := Kd.R_mono (ok' := fun _ => True) (Kd.R_drew HRN.out) (fun _ _ => trivial)
            rwa [e9] at this
          · have := HWY.out [u] (by rw [HUT.out]; exact WayR.stop)
            exact this
        · have hd : (u == tv) = false := by rw [beq_eq_false_iff_ne]; exact hut
          have hd2 : (u != tv) = true := by rw [bne, hd]; rfl
          have HUT := Aside0.mk hut
          have HEX : Aside0 (∃ x ∈ outOf out u, Cand c u x) := ⟨by
            obtain ⟨r, hr, h1, h2⟩ := HD.out.by_ u HU.out.1.1 HU.out.1.2 HU.out.2.1 hut
            exact ⟨r, hr, h1, h2.symm⟩⟩
          clear hut
          go_wp2_with (fail)
          refine ((H.out.below HBW.out).out u).mono ?_
          rintro e w5 ⟨A5, c5, rfl, hr5, hb5⟩
          obtain ⟨L, hL⟩ : ∃ L, L = (outOf out u).length := ⟨_, rfl⟩
          have HLL := Aside0.mk hL
          have HL4 : Aside0 (L ≤ 4096) := ⟨by rw [hL]; exact out_len HG.out rfl (by have := HL.out; omega) _⟩
          have HC5 : Aside0 (Kd.C kRd w5 A5 L (outOf out u)) := ⟨by rw [hL]; exact (Kd.R_reads' hr5).2.2⟩
          have HRN5 := Aside0.mk (Kd.R_below HRN.out hb5)
          have HRL5 := Aside0.mk (Kd.R_below HRL.out hb5)
          have HB5 := Aside0.mk (below_step HBW.out hb5)
          rw [← hL]
          clear hr5 hb5 hL HRN HRL HBW
          go_wp2_with ((with_reducible refine gate_upon ?_); go_simp)
          go_loopg [14, 49] L (fun kq v14 v49 w' => ∃ (k : Nat) (nx : Int), v14 = .int .i64 nx ∧ v49 = .int .i64 k ∧ Aside0 (k + kq = L) ∧ Aside0 (NxInv c u (outOf out u) k nx) ∧ Aside0 (Below w5.heap.size w5 w'))
          case atStart => exact ⟨0, -1, rfl, rfl, ⟨by omega⟩, ⟨Or.inl ⟨rfl, by simp⟩⟩, ⟨Below.refl _ _⟩⟩
          case round =>
           as_aux_lemma =>
            obtain ⟨k, nx, rfl, rfl, HK, HNX, HB6⟩ := hrel
            cases gk with
            | zero =>
             as_aux_lemma =>
              have hk : L = k := by have := HK.out; omega
              subst hk
              have hgt : decide (L < L) = false := decide_eq_false (by omega)
              obtain ⟨⟨x, hxm, hxc, hxn⟩, hle⟩ := HNX.out.done (by rw [← HLL.out]; exact Nat.le_refl _) HEX.out
              have hnet := (net_of HG.out rfl).road u x HU.out.1.1 HU.out.1.2 hxm
              have HX : Aside0 ((0 ≤ nx ∧ nx < out.length) ∧ 0 ≤ cv c nx ∧ cv c nx + 1 ≤ cv c u) := ⟨by
                obtain ⟨c1, c2⟩ := hxc
                rw [hxn] at c1 c2 hnet
                omega⟩
              have HW2 : Aside0 (∀ l, WayR (outOf out) c tv nx l → WayR (outOf out) c tv u (u :: l)) := ⟨fun l hl => WayR.go HUT.out ⟨x, hxm, hxc, hxn⟩ hle hl⟩
              have HRN6 := Aside0.mk (Kd.R_below HRN5.out HB6.out)
              have HRL6 := Aside0.mk (Kd.R_below HRL5.out HB6.out)
              have HB7 := Aside0.mk (below_step HB5.out HB6.out)
              clear hxm hxc hxn hle hnet HB6 HRN5 HRL5 HB5 HC5 HNX
              go_wp2_with (first | ((with_reducible refine gate_dst (N := 91) rfl ?_); refine Kd.R_append kInt (w0 := w) w.heap.size rfl (.tmp 88) (.tmp 90) 32 3 (.int .i64 0) 8 rfl Try.underlying32 infoInt rfl (by decide) (by omega) u12 (p ++ [u]) nx [.int .i64 nx] (fun k => k ≠ gl) (fun _ => False) rfl rfl rfl (fun _ hk => hk.elim) (fun k hk => by have := Kd.R_lt HRL6.out gl (by simp [Value.ownBlock]); omega) HRN6.out HB7.out HB7.out.size (by have := HPL.out; have := HU.out; have := HD.out.most fr HFT.out.1.1 HFT.out.1.2; have := HL.out; have := HZF.out; rw [List.length_append, List.length_singleton]; omega) ?_; intro v8 w8 ho hb8 hg8 hat; have HRN8 := Aside0.mk ho; have HB8 := Aside0.mk hb8; have HRL8 : Aside0 (kInt.R 3 w8 w.heap.size (fun _ => True) (.slice (some ⟨gl, 0, none⟩) out.length cc) c) := ⟨flat_keep flatInt HRL6.out (fun k hk => hg8.block k (Kd.R_lt HRL6.out k hk) (fun e => HRN6.out.1 k e.symm (by simpa [Value.ownBlock] using hk.symm))) (fun _ _ => trivial)⟩; clear ho hb8 hg8 hat HRN6 HRL6 HB7) | ((with_reducible refine gate_upon ?_); go_simp))
              go_roundg (cv c u).toNat
              case measure => have := HU.out; omega
              case rel => exact ⟨nx, p ++ [u], rfl, ⟨⟨HX.out.1, HX.out.2.1, by have := HX.out; have := HU.out; omega⟩⟩, HRN8, ⟨by rw [List.length_append, List.length_singleton]; have := HX.out; have := HPL.out; omega⟩, ⟨fun l hl => by
                have := HWY.out (u :: l) (HW2.out l hl)
                rw [List.append_assoc]
                exact this⟩, HRL8, HB8⟩
            | succ gk3 =>
              have hkl : k < L := by have := HK.out; omega
              have hlt : decide (k < L) = true := decide_eq_true hkl
              have hltI : (k : Int) < L := by omega
              obtain ⟨a, x, ha, hlx, hcx⟩ := rd_at HC5.out HLL.out (by rw [← HLL.out]; exact hkl)
              have HLX := Aside0.mk hlx
              have hnet := (net_of HG.out rfl).road u x HU.out.1.1 HU.out.1.2 (List.mem_of_getElem? hlx)
              obtain ⟨q0, q1, q2⟩ := hcx wr HB6.out
              obtain ⟨t, ht⟩ : ∃ t, t = x.2.1 := ⟨_, rfl⟩
              obtain ⟨co, hco⟩ : ∃ co, co = x.2.2 := ⟨_, rfl⟩
              have HTX := Aside0.mk (And.intro ht hco)
              rw [← ht] at q1 hnet
              rw [← hco] at q2 hnet
              obtain ⟨ht0, htn, hco1, hco2⟩ := hnet
              have HTT := Aside0.mk (And.intro ht0 (And.intro htn (And.intro hco1 hco2)))
              have HXA := Aside0.mk (blk_new wr (.cells #[.int .i64 0, .int .i64 0, .int .i64 0] 40))
              have HK1 : Aside0 (k + 1 + gk3 = L) := ⟨by have := HK.out; omega⟩
              have HWK : Aside0 (wrap64 ((k : Int) + 1) = (k : Int) + 1) := ⟨by unfold wrap64; have := HK.out; have := HL4.out; omega⟩
              subst ha
              clear hlx hcx ht hco hco1 hco2
              go_upto_region 14 with (first | ((with_reducible refine gate_store (t := 40) (p := 16) (v := .tmp 52) rfl ?_); refine wpList_store_row rfl 40 (.tmp 16) (.tmp 52) rfl wr.heap.size #[.int .i64 x.1, .int .i64 t, .int .i64 co] rfl rfl _ _ HXA.out infoRo rfl (by simp [Value.oneCell']) ?_; have hs := chg_row (cs := #[.int .i64 x.1, .int .i64 t, .int .i64 co]) HXA.out; have HXB := Aside0.mk hs.1; have hbx := (Chg.of_below (F := (fun _ => False)) (below_alloc (Below.refl wr.heap.size wr) (.cells #[.int .i64 0, .int .i64 0, .int .i64 0] 40))).then hs.2 (fun i hi => Or.inr (Nat.le_of_eq (Eq.symm hi))); have HBB : Aside0 (Below wr.heap.size wr ((wr.alloc (.cells #[.int .i64 0, .int .i64 0, .int .i64 0] 40)).setRow wr.heap.size #[.int .i64 x.1, .int .i64 t, .int .i64 co])) := ⟨hbx.below (Nat.le_refl _) (fun _ q => q.elim)⟩; clear hs hbx; generalize (wr.alloc (.cells #[.int .i64 0, .int .i64 0, .int .i64 0] 40)).setRow wr.heap.size #[.int .i64 x.1, .int .i64 t, .int .i64 co] = wB at HXB HBB ⊢) | ((with_reducible refine gate_upon ?_); go_simp))
              clear q0 q1 q2
              have HB6B := Aside0.mk (below_step HB6.out HBB.out)
              obtain ⟨gy, hgy⟩ : ∃ gy, gy = wr.heap.size := ⟨_, rfl⟩
              rw [← hgy] at HXB
              rw [← hgy]
              clear hgy HXA HBB HB6
              obtain ⟨zt, hzt⟩ : ∃ zt, zt = cv c t := ⟨_, rfl⟩
              obtain ⟨za, hza⟩ : ∃ za, za = cv c u := ⟨_, rfl⟩
              have HZZ := Aside0.mk (And.intro hzt hza)
              have HCT : Aside0 (wB.cell? ⟨gl, t.toNat, none⟩ = some (.int .i64 zt)) := ⟨by
                rw [hzt]
                exact (Kd.R_celln (n := out.length) (d := (-1 : Int)) (Kd.R_below HRL5.out HB6B.out) t ht0 htn).1⟩
              have HCA : Aside0 (wB.cell? ⟨gl, u.toNat, none⟩ = some (.int .i64 za)) := ⟨by
                rw [hza]
                exact (Kd.R_celln (n := out.length) (d := (-1 : Int)) (Kd.R_below HRL5.out HB6B.out) u HU.out.1.1 HU.out.1.2).1⟩
              have HWZ : Aside0 (wrap64 (zt + co) = zt + co) := ⟨by
                have h1 := HD.out.most t ht0 htn
                have h2 := HD.out.ge t ht0
                have h3 := HL.out
                have h4 := HTT.out
                rw [← hzt] at h1 h2
                unfold wrap64
                omega⟩
              have hu0 : 0 ≤ u := HU.out.1.1
              have hun : u < out.length := HU.out.1.2
              clear hzt hza
              have HCD : Aside0 (Cand c u x ↔ 0 ≤ zt ∧ zt + co = za) := ⟨by
                unfold Cand
                rw [← HTX.out.1, ← HTX.out.2, ← HZZ.out.1, ← HZZ.out.2]⟩
              by_cases a1 : 0 ≤ zt
              · have d1 : decide (0 ≤ zt) = true := decide_eq_true a1
                by_cases a2 : zt + co = za
                · have d2 : (zt + co == za) = true := by rw [beq_iff_eq]; exact a2
                  have HAA := Aside0.mk (And.intro a1 a2)
                  clear a2
                  by_cases a3 : nx < 0
                  · have d3 : decide (nx < 0) = true := decide_eq_true a3
                    have HA3 := Aside0.mk a3
                    clear a1 a3
                    have HINV : Aside0 (NxInv c u (outOf out u) (k + 1) t) := ⟨by have := HNX.out.yes HLX.out (HCD.out.2 HAA.out) (Or.inl HA3.out) (by rw [← HTX.out.1]; exact HTT.out.1); rwa [← HTX.out.1] at this⟩
                    have hwz := HWZ.out
                    refine start_ (n := 31) (S := fun w' => w'.cell? ⟨gy, 1, none⟩ = some (.int .i64 t) ∧ w'.cell? ⟨gy, 2, none⟩ = some (.int .i64 co) ∧ w'.cell? ⟨gl, t.toNat, none⟩ = some (.int .i64 zt) ∧ w'.cell? ⟨gl, u.toNat, none⟩ = some (.int .i64 za)) (ds := []) #[ff,ff,ff,ff,ff,ff,ff,ff,ff,ff,ff,ff,ff,ff,ff,ff,ff,ff,ff,ff,ff,ff,ff,ff,ff,ff,ff,ff,ff,ff,ff] (by kernel_rfl) rfl rfl ⟨(blk_cell HXB.out 1).trans rfl, (blk_cell HXB.out 2).trans rfl, HCT.out, HCA.out⟩ (fun hHeld => ?_)
                    refine with_tabW way.tab14 way.bits14 (fun HT_ HW_ => ?_)
                    refine pure_ (i := 0) (N := some 53) (v := ?_) (a' := ?_) #[tt,ff,ff,ff,ff,ff,ff,ff,ff,ff,ff,ff,ff,ff,ff,ff,ff,ff,ff,ff,ff,ff,ff,ff,ff,ff,ff,ff,ff,ff,ff] rfl rfl (any_of HT_.out (by kernel_rfl)) (fun _ _ _ h => h) (Or.inl ⟨by rfl, ?_⟩) ?_ ?_
                    rotate_left; exact slv; rotate_left; exact sla
                    refine pure_ (i := 1) (N := some 54) (v := ?_) (a' := ?_) #[tt,tt,ff,ff,ff,ff,ff,ff,ff,ff,ff,ff,ff,ff,ff,ff,ff,ff,ff,ff,ff,ff,ff,ff,ff,ff,ff,ff,ff,ff,ff] rfl rfl (any_of HT_.out (by kernel_rfl)) (fun _ _ _ h => h) (Or.inl ⟨by rfl, ?_⟩) ?_ ?_
                    rotate_left; exact slv; rotate_left; exact sla
                    refine take_ (i := 2) (N := some 55) (v := ?_) (a' := ?_) #[tt,tt,tt,ff,ff,ff,ff,ff,ff,ff,ff,ff,ff,ff,ff,ff,ff,ff,ff,ff,ff,ff,ff,ff,ff,ff,ff,ff,ff,ff,ff] rfl rfl (take_ofW HT_.out HW_.out (by kernel_rfl)) (fun _ _ _ h => h) (Or.inl ⟨by rfl, ?_⟩) hHeld ?_ ?_
                    rotate_left; exact slt4; rotate_left; exact sla
                    refine pure_ (i := 3) (N := some 56) (v := ?_) (a' := ?_) #[tt,tt,tt,tt,ff,ff,ff,ff,ff,ff,ff,ff,ff,ff,ff,ff,ff,ff,ff,ff,ff,ff,ff,ff,ff,ff,ff,ff,ff,ff,ff] rfl rfl (any_of HT_.out (by kernel_rfl)) (fun _ _ _ h => h) (Or.inl ⟨by rfl, ?_⟩) ?_ ?_
                    rotate_left; exact slv; rotate_left; exact sla
                    refine take_ (i := 4) (N := some 57) (v := ?_) (a' := ?_) #[tt,tt,tt,tt,tt,ff,ff,ff,ff,ff,ff,ff,ff,ff,ff,ff,ff,ff,ff,ff,ff,ff,ff,ff,ff,ff,ff,ff,ff,ff,ff] rfl rfl (take_ofW HT_.out HW_.out (by kernel_rfl)) (fun _ _ _ h => h) (Or.inl ⟨by rfl, ?_⟩) hHeld ?_ ?_
                    rotate_left; exact slt4; rotate_left; exact sla
                    refine pure_ (i := 5) (N := some 58) (v := ?_) (a' := ?_) #[tt,tt,tt,tt,tt,tt,ff,ff,ff,ff,ff,ff,ff,ff,ff,ff,ff,ff,ff,ff,ff,ff,ff,ff,ff,ff,ff,ff,ff,ff,ff] rfl rfl (any_of HT_.out (by kernel_rfl)) (fun _ _ _ h => h) (Or.inl ⟨by rfl, ?_⟩) ?_ ?_
                    rotate_left; exact slv; rotate_left; exact sla
                    refine pure_ (i := 6) (N := some 59) (v := ?_) (a' := ?_) #[tt,tt,tt,tt,tt,tt,tt,ff,ff,ff,ff,ff,ff,ff,ff,ff,ff,ff,ff,ff,ff,ff,ff,ff,ff,ff,ff,ff,ff,ff,ff] rfl rfl (any_of HT_.out (by kernel_rfl)) (fun _ _ _ h => h) (Or.inl ⟨by rfl, ?_⟩) ?_ ?_
                    rotate_left; exact slv; rotate_left; exact sla
                    refine pure_ (i := 7) (N := some 60) (v := ?_) (a' := ?_) #[tt,tt,tt,tt,tt,tt,tt,tt,ff,ff,ff,ff,ff,ff,ff,ff,ff,ff,ff,ff,ff,ff,ff,ff,ff,ff,ff,ff,ff,ff,ff] rfl rfl (any_of HT_.out (by kernel_rfl)) (fun _ _ _ h => h) (Or.inl ⟨by rfl, ?_⟩) ?_ ?_
                    rotate_left; exact slv; rotate_left; exact sla
                    refine pure_ (i := 8) (N := some 61) (v := ?_) (a' := ?_) #[tt,tt,tt,tt,tt,tt,tt,tt,tt,ff,ff,ff,ff,ff,ff,ff,ff,ff,ff,ff,ff,ff,ff,ff,ff,ff,ff,ff,ff,ff,ff] rfl rfl (any_of HT_.out (by kernel_rfl)) (fun _ _ _ h => h) (Or.inl ⟨by rfl, ?_⟩) ?_ ?_
                    rotate_left; exact slv; rotate_left; exact sla
                    refine pure_ (i := 12) (N := some 65) (v := ?_) (a' := ?_) #[tt,tt,tt,tt,tt,tt,tt,tt,tt,ff,ff,ff,tt,ff,ff,ff,ff,ff,ff,ff,ff,ff,ff,ff,ff,ff,ff,ff,ff,ff,ff] rfl rfl (any_of HT_.out (by kernel_rfl)) (fun _ _ _ h => h) (Or.inl ⟨by rfl, ?_⟩) ?_ ?_
                    rotate_left; exact slv; rotate_left; exact sla
                    refine pure_ (i := 15) (N := some 68) (v := ?_) (a' := ?_) #[tt,tt,tt,tt,tt,tt,tt,tt,tt,ff,ff,ff,tt,ff,ff,tt,ff,ff,ff,ff,ff,ff,ff,ff,ff,ff,ff,ff,ff,ff,ff] rfl rfl (any_of HT_.out (by kernel_rfl)) (fun _ _ _ h => h) (Or.inl ⟨by rfl, ?_⟩) ?_ ?_
                    rotate_left; exact slv; rotate_left; exact sla
                    refine pure_ (i := 16) (N := some 69) (v := ?_) (a' := ?_) #[tt,tt,tt,tt,tt,tt,tt,tt,tt,ff,ff,ff,tt,ff,ff,tt,tt,ff,ff,ff,ff,ff,ff,ff,ff,ff,ff,ff,ff,ff,ff] rfl rfl (any_of HT_.out (by kernel_rfl)) (fun _ _ _ h => h) (Or.inl ⟨by rfl, ?_⟩) ?_ ?_
                    rotate_left; exact slv; rotate_left; exact sla
                    refine pure_ (i := 17) (N := some 70) (v := ?_) (a' := ?_) #[tt,tt,tt,tt,tt,tt,tt,tt,tt,ff,ff,ff,tt,ff,ff,tt,tt,tt,ff,ff,ff,ff,ff,ff,ff,ff,ff,ff,ff,ff,ff] rfl rfl (any_of HT_.out (by kernel_rfl)) (fun _ _ _ h => h) (Or.inl ⟨by rfl, ?_⟩) ?_ ?_
                    rotate_left; exact slv; rotate_left; exact sla
                    refine take_ (i := 9) (N := some 62) (v := ?_) (a' := ?_) #[tt,tt,tt,tt,tt,tt,tt,tt,tt,tt,ff,ff,tt,ff,ff,tt,tt,tt,ff,ff,ff,ff,ff,ff,ff,ff,ff,ff,ff,ff,ff] rfl rfl (take_ofW HT_.out HW_.out (by kernel_rfl)) (fun _ _ _ h => h) (Or.inl ⟨by rfl, ?_⟩) hHeld ?_ ?_
                    rotate_left; exact slt4; rotate_left; exact sla
                    refine pure_ (i := 10) (N := some 63) (v := ?_) (a' := ?_) #[tt,tt,tt,tt,tt,tt,tt,tt,tt,tt,tt,ff,tt,ff,ff,tt,tt,tt,ff,ff,ff,ff,ff,ff,ff,ff,ff,ff,ff,ff,ff] rfl rfl (any_of HT_.out (by kernel_rfl)) (fun _ _ _ h => h) (Or.inl ⟨by rfl, ?_⟩) ?_ ?_
                    rotate_left; exact slv; rotate_left; exact sla
                    refine take_ (i := 11) (N := some 64) (v := ?_) (a' := ?_) #[tt,tt,tt,tt,tt,tt,tt,tt,tt,tt,tt,tt,tt,ff,ff,tt,tt,tt,ff,ff,ff,ff,ff,ff,ff,ff,ff,ff,ff,ff,ff] rfl rfl (take_ofW HT_.out HW_.out (by kernel_rfl)) (fun _ _ _ h => h) (Or.inl ⟨by rfl, ?_⟩) hHeld ?_ ?_
                    rotate_left; exact slt4; rotate_left; exact sla
                    refine take_ (i := 13) (N := some 66) (v := ?_) (a' := ?_) #[tt,tt,tt,tt,tt,tt,tt,tt,tt,tt,tt,tt,tt,tt,ff,tt,tt,tt,ff,ff,ff,ff,ff,ff,ff,ff,ff,ff,ff,ff,ff] rfl rfl (take_ofW HT_.out HW_.out (by kernel_rfl)) (fun _ _ _ h => h) (Or.inl ⟨by rfl, ?_⟩) hHeld ?_ ?_
                    rotate_left; exact slt4; rotate_left; exact sla
                    refine pure_ (i := 14) (N := some 67) (v := ?_) (a' := ?_) #[tt,tt,tt,tt,tt,tt,tt,tt,tt,tt,tt,tt,tt,tt,tt,tt,tt,tt,ff,ff,ff,ff,ff,ff,ff,ff,ff,ff,ff,ff,ff] rfl rfl (any_of HT_.out (by kernel_rfl)) (fun _ _ _ h => h) (Or.inl ⟨by rfl, ?_⟩) ?_ ?_
                    rotate_left; exact slv; rotate_left; exact sla
                    refine take_ (i := 18) (N := some 71) (v := ?_) (a' := ?_) #[tt,tt,tt,tt,tt,tt,tt,tt,tt,tt,tt,tt,tt,tt,tt,tt,tt,tt,tt,ff,ff,ff,ff,ff,ff,ff,ff,ff,ff,ff,ff] rfl rfl (take_ofW HT_.out HW_.out (by kernel_rfl)) (fun _ _ _ h => h) (Or.inl ⟨by rfl, ?_⟩) hHeld ?_ ?_
                    rotate_left; exact slt4; rotate_left; exact sla
                    refine pure_ (i := 19) (N := some 72) (v := ?_) (a' := ?_) #[tt,tt,tt,tt,tt,tt,tt,tt,tt,tt,tt,tt,tt,tt,tt,tt,tt,tt,tt,tt,ff,ff,ff,ff,ff,ff,ff,ff,ff,ff,ff] rfl rfl (any_of HT_.out (by kernel_rfl)) (fun _ _ _ h => h) (Or.inl ⟨by rfl, ?_⟩) ?_ ?_
                    rotate_left; exact slv; rotate_left; exact sla
                    refine pure_ (i := 20) (N := some 73) (v := ?_) (a' := ?_) #[tt,tt,tt,tt,tt,tt,tt,tt,tt,tt,tt,tt,tt,tt,tt,tt,tt,tt,tt,tt,tt,ff,ff,ff,ff,ff,ff,ff,ff,ff,ff] rfl rfl (any_of HT_.out (by kernel_rfl)) (fun _ _ _ h => h) (Or.inl ⟨by rfl, ?_⟩) ?_ ?_
                    rotate_left; exact slv; rotate_left; exact sla
                    refine pure_ (i := 21) (N := some 74) (v := ?_) (a' := ?_) #[tt,tt,tt,tt,tt,tt,tt,tt,tt,tt,tt,tt,tt,tt,tt,tt,tt,tt,tt,tt,tt,tt,ff,ff,ff,ff,ff,ff,ff,ff,ff] rfl rfl (any_of HT_.out (by kernel_rfl)) (fun _ _ _ h => h) (Or.inl ⟨by rfl, ?_⟩) ?_ ?_
                    rotate_left; exact slv; rotate_left; exact sla
                    refine pure_ (i := 22) (N := some 75) (v := ?_) (a' := ?_) #[tt,tt,tt,tt,tt,tt,tt,tt,tt,tt,tt,tt,tt,tt,tt,tt,tt,tt,tt,tt,tt,tt,tt,ff,ff,ff,ff,ff,ff,ff,ff] rfl rfl (any_of HT_.out (by kernel_rfl)) (fun _ _ _ h => h) (Or.inl ⟨by rfl, ?_⟩) ?_ ?_
                    rotate_left; exact slv; rotate_left; exact sla
                    refine pure_ (i := 23) (N := some 76) (v := ?_) (a' := ?_) #[tt,tt,tt,tt,tt,tt,tt,tt,tt,tt,tt,tt,tt,tt,tt,tt,tt,tt,tt,tt,tt,tt,tt,tt,ff,ff,ff,ff,ff,ff,ff] rfl rfl (any_of HT_.out (by kernel_rfl)) (fun _ _ _ h => h) (Or.inl ⟨by rfl, ?_⟩) ?_ ?_
                    rotate_left; exact slv; rotate_left; exact sla
                    refine pure_ (i := 24) (N := some 77) (v := ?_) (a' := ?_) #[tt,tt,tt,tt,tt,tt,tt,tt,tt,tt,tt,tt,tt,tt,tt,tt,tt,tt,tt,tt,tt,tt,tt,tt,tt,ff,ff,ff,ff,ff,ff] rfl rfl (any_of HT_.out (by kernel_rfl)) (fun _ _ _ h => h) (Or.inl ⟨by rfl, ?_⟩) ?_ ?_
                    rotate_left; exact slv; rotate_left; exact sla
                    refine pure_ (i := 25) (N := some 78) (v := undef) (a' := ?_) #[tt,tt,tt,tt,tt,tt,tt,tt,tt,tt,tt,tt,tt,tt,tt,tt,tt,tt,tt,tt,tt,tt,tt,tt,tt,tt,ff,ff,ff,ff,ff] rfl rfl (any_of HT_.out (by kernel_rfl)) (fun _ _ _ h => h) (Or.inr ⟨by rfl, rfl⟩) ?_ ?_
                    rotate_left
                    · exact sla
                    refine pure_ (i := 26) (N := some 79) (v := undef) (a' := ?_) #[tt,tt,tt,tt,tt,tt,tt,tt,tt,tt,tt,tt,tt,tt,tt,tt,tt,tt,tt,tt,tt,tt,tt,tt,tt,tt,tt,ff,ff,ff,ff] rfl rfl (any_of HT_.out (by kernel_rfl)) (fun _ _ _ h => h) (Or.inr ⟨by rfl, rfl⟩) ?_ ?_
                    rotate_left
                    · exact sla
                    refine pure_ (i := 27) (N := some 80) (v := undef) (a' := ?_) #[tt,tt,tt,tt,tt,tt,tt,tt,tt,tt,tt,tt,tt,tt,tt,tt,tt,tt,tt,tt,tt,tt,tt,tt,tt,tt,tt,tt,ff,ff,ff] rfl rfl (any_of HT_.out (by kernel_rfl)) (fun _ _ _ h => h) (Or.inr ⟨by rfl, rfl⟩) ?_ ?_
                    rotate_left
                    · exact sla
                    refine pure_ (i := 28) (N := some 81) (v := undef) (a' := ?_) #[tt,tt,tt,tt,tt,tt,tt,tt,tt,tt,tt,tt,tt,tt,tt,tt,tt,tt,tt,tt,tt,tt,tt,tt,tt,tt,tt,tt,tt,ff,ff] rfl rfl (any_of HT_.out (by kernel_rfl)) (fun _ _ _ h => h) (Or.inr ⟨by rfl, rfl⟩) ?_ ?_
                    rotate_left
                    · exact sla
                    refine pure_ (i := 29) (N := some 82) (v := ?_) (a' := ?_) #[tt,tt,tt,tt,tt,tt,tt,tt,tt,tt,tt,tt,tt,tt,tt,tt,tt,tt,tt,tt,tt,tt,tt,tt,tt,tt,tt,tt,tt,tt,ff] rfl rfl (any_of HT_.out (by kernel_rfl)) (fun _ _ _ h => h) (Or.inl ⟨by rfl, ?_⟩) ?_ ?_
                    rotate_left; exact slv; rotate_left; exact sla
                    refine pure_ (i := 30) (N := some 83) (v := ?_) (a' := ?_) #[tt,tt,tt,tt,tt,tt,tt,tt,tt,tt,tt,tt,tt,tt,tt,tt,tt,tt,tt,tt,tt,tt,tt,tt,tt,tt,tt,tt,tt,tt,tt] rfl rfl (any_of HT_.out (by kernel_rfl)) (fun _ _ _ h => h) (Or.inl ⟨by rfl, ?_⟩) ?_ ?_
                    rotate_left; exact slv; rotate_left; exact sla
                    refine done_ (done_of HT_.out (by kernel_rfl)) ?_
                    try clear hHeld hwz
                    have hy1 : wB.drew.cell? ⟨gy, 1, none⟩ = some (.int .i64 t) := (blk_cell HXB.out 1).trans rfl
                    have hwk := HWK.out
                    go_wp2
                    go_roundg gk3
                    case measure => first | exact Nat.lt_succ_self _ | omega
                    case rel => exact ⟨k + 1, t, rfl, by first | rfl | (simp; done) | (rw [hwk]; rfl), HK1, HINV, ⟨below_drew HB6B.out⟩⟩
                  · have d3 : decide (nx < 0) = false := decide_eq_false a3
                    by_cases a4 : t < nx
                    · have d4 : decide (t < nx) = true := decide_eq_true a4
                      have HA4 := Aside0.mk a4
                      clear a1 a3 a4
                      have HINV : Aside0 (NxInv c u (outOf out u) (k + 1) t) := ⟨by have := HNX.out.yes HLX.out (HCD.out.2 HAA.out) (Or.inr (by rw [← HTX.out.1]; exact HA4.out)) (by rw [← HTX.out.1]; exact HTT.out.1); rwa [← HTX.out.1] at this⟩
                      have hwz := HWZ.out
                      refine start_ (n := 31) (S := fun w' => w'.cell? ⟨gy, 1, none⟩ = some (.int .i64 t) ∧ w'.cell? ⟨gy, 2, none⟩ = some (.int .i64 co) ∧ w'.cell? ⟨gl, t.toNat, none⟩ = some (.int .i64 zt) ∧ w'.cell? ⟨gl, u.toNat, none⟩ = some (.int .i64 za)) (ds := []) #[ff,ff,ff,ff,ff,ff,ff,ff,ff,ff,ff,ff,ff,ff,ff,ff,ff,ff,ff,ff,ff,ff,ff,ff,ff,ff,ff,ff,ff,ff,ff] (by kernel_rfl) rfl rfl ⟨(blk_cell HXB.out 1).trans rfl, (blk_cell HXB.out 2).trans rfl, HCT.out, HCA.out⟩ (fun hHeld => ?_)
                      refine with_tabW way.tab14 way.bits14 (fun HT_ HW_ => ?_)
                      refine pure_ (i := 0) (N := some 53) (v := ?_) (a' := ?_) #[tt,ff,ff,ff,ff,ff,ff,ff,ff,ff,ff,ff,ff,ff,ff,ff,ff,ff,ff,ff,ff,ff,ff,ff,ff,ff,ff,ff,ff,ff,ff] rfl rfl (any_of HT_.out (by kernel_rfl)) (fun _ _ _ h => h) (Or.inl ⟨by rfl, ?_⟩) ?_ ?_
                      rotate_left; exact slv; rotate_left; exact sla
                      refine pure_ (i := 1) (N := some 54) (v := ?_) (a' := ?_) #[tt,tt,ff,ff,ff,ff,ff,ff,ff,ff,ff,ff,ff,ff,ff,ff,ff,ff,ff,ff,ff,ff,ff,ff,ff,ff,ff,ff,ff,ff,ff] rfl rfl (any_of HT_.out (by kernel_rfl)) (fun _ _ _ h => h) (Or.inl ⟨by rfl, ?_⟩) ?_ ?_
                      rotate_left; exact slv; rotate_left; exact sla
                      refine take_ (i := 2) (N := some 55) (v := ?_) (a' := ?_) #[tt,tt,tt,ff,ff,ff,ff,ff,ff,ff,ff,ff,ff,ff,ff,ff,ff,ff,ff,ff,ff,ff,ff,ff,ff,ff,ff,ff,ff,ff,ff] rfl rfl (take_ofW HT_.out HW_.out (by kernel_rfl)) (fun _ _ _ h => h) (Or.inl ⟨by rfl, ?_⟩) hHeld ?_ ?_
                      rotate_left; exact slt4; rotate_left; exact sla
                      refine pure_ (i := 3) (N := some 56) (v := ?_) (a' := ?_) #[tt,tt,tt,tt,ff,ff,ff,ff,ff,ff,ff,ff,ff,ff,ff,ff,ff,ff,ff,ff,ff,ff,ff,ff,ff,ff,ff,ff,ff,ff,ff] rfl rfl (any_of HT_.out (by kernel_rfl)) (fun _ _ _ h => h) (Or.inl ⟨by rfl, ?_⟩) ?_ ?_
                      rotate_left; exact slv; rotate_left; exact sla
                      refine take_ (i := 4) (N := some 57) (v := ?_) (a' := ?_) #[tt,tt,tt,tt,tt,ff,ff,ff,ff,ff,ff,ff,ff,ff,ff,ff,ff,ff,ff,ff,ff,ff,ff,ff,ff,ff,ff,ff,ff,ff,ff] rfl rfl (take_ofW HT_.out HW_.out (by kernel_rfl)) (fun _ _ _ h => h) (Or.inl ⟨by rfl, ?_⟩) hHeld ?_ ?_
                      rotate_left; exact slt4; rotate_left; exact sla
                      refine pure_ (i := 5) (N := some 58) (v := ?_) (a' := ?_) #[tt,tt,tt,tt,tt,tt,ff,ff,ff,ff,ff,ff,ff,ff,ff,ff,ff,ff,ff,ff,ff,ff,ff,ff,ff,ff,ff,ff,ff,ff,ff] rfl rfl (any_of HT_.out (by kernel_rfl)) (fun _ _ _ h => h) (Or.inl ⟨by rfl, ?_⟩) ?_ ?_
                      rotate_left; exact slv; rotate_left; exact sla
                      refine pure_ (i := 6) (N := some 59) (v := ?_) (a' := ?_) #[tt,tt,tt,tt,tt,tt,tt,ff,ff,ff,ff,ff,ff,ff,ff,ff,ff,ff,ff,ff,ff,ff,ff,ff,ff,ff,ff,ff,ff,ff,ff] rfl rfl (any_of HT_.out (by kernel_rfl)) (fun _ _ _ h => h) (Or.inl ⟨by rfl, ?_⟩) ?_ ?_
                      rotate_left; exact slv; rotate_left; exact sla
                      refine pure_ (i := 7) (N := some 60) (v := ?_) (a' := ?_) #[tt,tt,tt,tt,tt,tt,tt,tt,ff,ff,ff,ff,ff,ff,ff,ff,ff,ff,ff,ff,ff,ff,ff,ff,ff,ff,ff,ff,ff,ff,ff] rfl rfl (any_of HT_.out (by kernel_rfl)) (fun _ _ _ h => h) (Or.inl ⟨by rfl, ?_⟩) ?_ ?_
                      rotate_left; exact slv; rotate_left; exact sla
                      refine pure_ (i := 8) (N := some 61) (v := ?_) (a' := ?_) #[tt,tt,tt,tt,tt,tt,tt,tt,tt,ff,ff,ff,ff,ff,ff,ff,ff,ff,ff,ff,ff,ff,ff,ff,ff,ff,ff,ff,ff,ff,ff] rfl rfl (any_of HT_.out (by kernel_rfl)) (fun _ _ _ h => h) (Or.inl ⟨by rfl, ?_⟩) ?_ ?_
                      rotate_left; exact slv; rotate_left; exact sla
                      refine pure_ (i := 12) (N := some 65) (v := ?_) (a' := ?_) #[tt,tt,tt,tt,tt,tt,tt,tt,tt,ff,ff,ff,tt,ff,ff,ff,ff,ff,ff,ff,ff,ff,ff,ff,ff,ff,ff,ff,ff,ff,ff] rfl rfl (any_of HT_.out (by kernel_rfl)) (fun _ _ _ h => h) (Or.inl ⟨by rfl, ?_⟩) ?_ ?_
                      rotate_left; exact slv; rotate_left; exact sla
                      refine pure_ (i := 15) (N := some 68) (v := ?_) (a' := ?_) #[tt,tt,tt,tt,tt,tt,tt,tt,tt,ff,ff,ff,tt,ff,ff,tt,ff,ff,ff,ff,ff,ff,ff,ff,ff,ff,ff,ff,ff,ff,ff] rfl rfl (any_of HT_.out (by kernel_rfl)) (fun _ _ _ h => h) (Or.inl ⟨by rfl, ?_⟩) ?_ ?_
                      rotate_left; exact slv; rotate_left; exact sla
                      refine pure_ (i := 16) (N := some 69) (v := ?_) (a' := ?_) #[tt,tt,tt,tt,tt,tt,tt,tt,tt,ff,ff,ff,tt,ff,ff,tt,tt,ff,ff,ff,ff,ff,ff,ff,ff,ff,ff,ff,ff,ff,ff] rfl rfl (any_of HT_.out (by kernel_rfl)) (fun _ _ _ h => h) (Or.inl ⟨by rfl, ?_⟩) ?_ ?_
                      rotate_left; exact slv; rotate_left; exact sla
                      refine pure_ (i := 17) (N := some 70) (v := ?_) (a' := ?_) #[tt,tt,tt,tt,tt,tt,tt,tt,tt,ff,ff,ff,tt,ff,ff,tt,tt,tt,ff,ff,ff,ff,ff,ff,ff,ff,ff,ff,ff,ff,ff] rfl rfl (any_of HT_.out (by kernel_rfl)) (fun _ _ _ h => h) (Or.inl ⟨by rfl, ?_⟩) ?_ ?_
                      rotate_left; exact slv; rotate_left; exact sla
                      refine take_ (i := 9) (N := some 62) (v := ?_) (a' := ?_) #[tt,tt,tt,tt,tt,tt,tt,tt,tt,tt,ff,ff,tt,ff,ff,tt,tt,tt,ff,ff,ff,ff,ff,ff,ff,ff,ff,ff,ff,ff,ff] rfl rfl (take_ofW HT_.out HW_.out (by kernel_rfl)) (fun _ _ _ h => h) (Or.inl ⟨by rfl, ?_⟩) hHeld ?_ ?_
                      rotate_left; exact slt4; rotate_left; exact sla
                      refine pure_ (i := 10) (N := some 63) (v := ?_) (a' := ?_) #[tt,tt,tt,tt,tt,tt,tt,tt,tt,tt,tt,ff,tt,ff,ff,tt,tt,tt,ff,ff,ff,ff,ff,ff,ff,ff,ff,ff,ff,ff,ff] rfl rfl (any_of HT_.out (by kernel_rfl)) (fun _ _ _ h => h) (Or.inl ⟨by rfl, ?_⟩) ?_ ?_
                      rotate_left; exact slv; rotate_left; exact sla
                      refine take_ (i := 11) (N := some 64) (v := ?_) (a' := ?_) #[tt,tt,tt,tt,tt,tt,tt,tt,tt,tt,tt,tt,tt,ff,ff,tt,tt,tt,ff,ff,ff,ff,ff,ff,ff,ff,ff,ff,ff,ff,ff] rfl rfl (take_ofW HT_.out HW_.out (by kernel_rfl)) (fun _ _ _ h => h) (Or.inl ⟨by rfl, ?_⟩) hHeld ?_ ?_
                      rotate_left; exact slt4; rotate_left; exact sla
                      refine take_ (i := 13) (N := some 66) (v := ?_) (a' := ?_) #[tt,tt,tt,tt,tt,tt,tt,tt,tt,tt,tt,tt,tt,tt,ff,tt,tt,tt,ff,ff,ff,ff,ff,ff,ff,ff,ff,ff,ff,ff,ff] rfl rfl (take_ofW HT_.out HW_.out (by kernel_rfl)) (fun _ _ _ h => h) (Or.inl ⟨by rfl, ?_⟩) hHeld ?_ ?_
                      rotate_left; exact slt4; rotate_left; exact sla
                      refine pure_ (i := 14) (N := some 67) (v := ?_) (a' := ?_) #[tt,tt,tt,tt,tt,tt,tt,tt,tt,tt,tt,tt,tt,tt,tt,tt,tt,tt,ff,ff,ff,ff,ff,ff,ff,ff,ff,ff,ff,ff,ff] rfl rfl (any_of HT_.out (by kernel_rfl)) (fun _ _ _ h => h) (Or.inl ⟨by rfl, ?_⟩) ?_ ?_
                      rotate_left; exact slv; rotate_left; exact sla
                      refine take_ (i := 18) (N := some 71) (v := ?_) (a' := ?_) #[tt,tt,tt,tt,tt,tt,tt,tt,tt,tt,tt,tt,tt,tt,tt,tt,tt,tt,tt,ff,ff,ff,ff,ff,ff,ff,ff,ff,ff,ff,ff] rfl rfl (take_ofW HT_.out HW_.out (by kernel_rfl)) (fun _ _ _ h => h) (Or.inl ⟨by rfl, ?_⟩) hHeld ?_ ?_
                      rotate_left; exact slt4; rotate_left; exact sla
                      refine pure_ (i := 19) (N := some 72) (v := ?_) (a' := ?_) #[tt,tt,tt,tt,tt,tt,tt,tt,tt,tt,tt,tt,tt,tt,tt,tt,tt,tt,tt,tt,ff,ff,ff,ff,ff,ff,ff,ff,ff,ff,ff] rfl rfl (any_of HT_.out (by kernel_rfl)) (fun _ _ _ h => h) (Or.inl ⟨by rfl, ?_⟩) ?_ ?_
                      rotate_left; exact slv; rotate_left; exact sla
                      refine pure_ (i := 20) (N := some 73) (v := ?_) (a' := ?_) #[tt,tt,tt,tt,tt,tt,tt,tt,tt,tt,tt,tt,tt,tt,tt,tt,tt,tt,tt,tt,tt,ff,ff,ff,ff,ff,ff,ff,ff,ff,ff] rfl rfl (any_of HT_.out (by kernel_rfl)) (fun _ _ _ h => h) (Or.inl ⟨by rfl, ?_⟩) ?_ ?_
                      rotate_left; exact slv; rotate_left; exact sla
                      refine pure_ (i := 21) (N := some 74) (v := ?_) (a' := ?_) #[tt,tt,tt,tt,tt,tt,tt,tt,tt,tt,tt,tt,tt,tt,tt,tt,tt,tt,tt,tt,tt,tt,ff,ff,ff,ff,ff,ff,ff,ff,ff] rfl rfl (any_of HT_.out (by kernel_rfl)) (fun _ _ _ h => h) (Or.inl ⟨by rfl, ?_⟩) ?_ ?_
                      rotate_left; exact slv; rotate_left; exact sla
                      refine pure_ (i := 22) (N := some 75) (v := ?_) (a' := ?_) #[tt,tt,tt,tt,tt,tt,tt,tt,tt,tt,tt,tt,tt,tt,tt,tt,tt,tt,tt,tt,tt,tt,tt,ff,ff,ff,ff,ff,ff,ff,ff] rfl rfl (any_of HT_.out (by kernel_rfl)) (fun _ _ _ h => h) (Or.inl ⟨by rfl, ?_⟩) ?_ ?_
                      rotate_left; exact slv; rotate_left; exact sla
                      refine pure_ (i := 23) (N := some 76) (v := ?_) (a' := ?_) #[tt,tt,tt,tt,tt,tt,tt,tt,tt,tt,tt,tt,tt,tt,tt,tt,tt,tt,tt,tt,tt,tt,tt,tt,ff,ff,ff,ff,ff,ff,ff] rfl rfl (any_of HT_.out (by kernel_rfl)) (fun _ _ _ h => h) (Or.inl ⟨by rfl, ?_⟩) ?_ ?_
                      rotate_left; exact slv; rotate_left; exact sla
                      refine pure_ (i := 24) (N := some 77) (v := ?_) (a' := ?_) #[tt,tt,tt,tt,tt,tt,tt,tt,tt,tt,tt,tt,tt,tt,tt,tt,tt,tt,tt,tt,tt,tt,tt,tt,tt,ff,ff,ff,ff,ff,ff] rfl rfl (any_of HT_.out (by kernel_rfl)) (fun _ _ _ h => h) (Or.inl ⟨by rfl, ?_⟩) ?_ ?_
                      rotate_left; exact slv; rotate_left; exact sla
                      refine pure_ (i := 25) (N := some 78) (v := ?_) (a' := ?_) #[tt,tt,tt,tt,tt,tt,tt,tt,tt,tt,tt,tt,tt,tt,tt,tt,tt,tt,tt,tt,tt,tt,tt,tt,tt,tt,ff,ff,ff,ff,ff] rfl rfl (any_of HT_.out (by kernel_rfl)) (fun _ _ _ h => h) (Or.inl ⟨by rfl, ?_⟩) ?_ ?_
                      rotate_left; exact slv; rotate_left; exact sla
                      refine pure_ (i := 27) (N := some 80) (v := ?_) (a' := ?_) #[tt,tt,tt,tt,tt,tt,tt,tt,tt,tt,tt,tt,tt,tt,tt,tt,tt,tt,tt,tt,tt,tt,tt,tt,tt,tt,ff,tt,ff,ff,ff] rfl rfl (any_of HT_.out (by kernel_rfl)) (fun _ _ _ h => h) (Or.inl ⟨by rfl, ?_⟩) ?_ ?_
                      rotate_left; exact slv; rotate_left; exact sla
                      refine take_ (i := 26) (N := some 79) (v := ?_) (a' := ?_) #[tt,tt,tt,tt,tt,tt,tt,tt,tt,tt,tt,tt,tt,tt,tt,tt,tt,tt,tt,tt,tt,tt,tt,tt,tt,tt,tt,tt,ff,ff,ff] rfl rfl (take_ofW HT_.out HW_.out (by kernel_rfl)) (fun _ _ _ h => h) (Or.inl ⟨by rfl, ?_⟩) hHeld ?_ ?_
                      rotate_left; exact slt4; rotate_left; exact sla
                      refine pure_ (i := 28) (N := some 81) (v := ?_) (a' := ?_) #[tt,tt,tt,tt,tt,tt,tt,tt,tt,tt,tt,tt,tt,tt,tt,tt,tt,tt,tt,tt,tt,tt,tt,tt,tt,tt,tt,tt,tt,ff,ff] rfl rfl (any_of HT_.out (by kernel_rfl)) (fun _ _ _ h => h) (Or.inl ⟨by rfl, ?_⟩) ?_ ?_
                      rotate_left; exact slv; rotate_left; exact sla
                      refine pure_ (i := 29) (N := some 82) (v := ?_) (a' := ?_) #[tt,tt,tt,tt,tt,tt,tt,tt,tt,tt,tt,tt,tt,tt,tt,tt,tt,tt,tt,tt,tt,tt,tt,tt,tt,tt,tt,tt,tt,tt,ff] rfl rfl (any_of HT_.out (by kernel_rfl)) (fun _ _ _ h => h) (Or.inl ⟨by rfl, ?_⟩) ?_ ?_
                      rotate_left; exact slv; rotate_left; exact sla
                      refine pure_ (i := 30) (N := some 83) (v := ?_) (a' := ?_) #[tt,tt,tt,tt,tt,tt,tt,tt,tt,tt,tt,tt,tt,tt,tt,tt,tt,tt,tt,tt,tt,tt,tt,tt,tt,tt,tt,tt,tt,tt,tt] rfl rfl (any_of HT_.out (by kernel_rfl)) (fun _ _ _ h => h) (Or.inl ⟨by rfl, ?_⟩) ?_ ?_
                      rotate_left; exact slv; rotate_left; exact sla
                      refine done_ (done_of HT_.out (by kernel_rfl)) ?_
                      try clear hHeld hwz
                      have hy1 : wB.drew.cell? ⟨gy, 1, none⟩ = some (.int .i64 t) := (blk_cell HXB.out 1).trans rfl
                      have hwk := HWK.out
                      go_wp2
                      go_roundg gk3
                      case measure => first | exact Nat.lt_succ_self _ | omega
                      case rel => exact ⟨k + 1, t, rfl, by first | rfl | (simp; done) | (rw [hwk]; rfl), HK1, HINV, ⟨below_drew HB6B.out⟩⟩
                    · have d4 : decide (t < nx) = false := decide_eq_false a4
                      have HA4 := Aside0.mk (And.intro a3 a4)
                      clear a1 a3 a4
                      have HINV : Aside0 (NxInv c u (outOf out u) (k + 1) nx) := ⟨HNX.out.no HLX.out (Or.inr (by rw [← HTX.out.1]; exact ⟨Int.not_lt.1 HA4.out.1, Int.not_lt.1 HA4.out.2⟩))⟩
                      have hwz := HWZ.out
                      refine start_ (n := 31) (S := fun w' => w'.cell? ⟨gy, 1, none⟩ = some (.int .i64 t) ∧ w'.cell? ⟨gy, 2, none⟩ = some (.int .i64 co) ∧ w'.cell? ⟨gl, t.toNat, none⟩ = some (.int .i64 zt) ∧ w'.cell? ⟨gl, u.toNat, none⟩ = some (.int .i64 za)) (ds := []) #[ff,ff,ff,ff,ff,ff,ff,ff,ff,ff,ff,ff,ff,ff,ff,ff,ff,ff,ff,ff,ff,ff,ff,ff,ff,ff,ff,ff,ff,ff,ff] (by kernel_rfl) rfl rfl ⟨(blk_cell HXB.out 1).trans rfl, (blk_cell HXB.out 2).trans rfl, HCT.out, HCA.out⟩ (fun hHeld => ?_)
                      refine with_tabW way.tab14 way.bits14 (fun HT_ HW_ => ?_)
                      refine pure_ (i := 0) (N := some 53) (v := ?_) (a' := ?_) #[tt,ff,ff,ff,ff,ff,ff,ff,ff,ff,ff,ff,ff,ff,ff,ff,ff,ff,ff,ff,ff,ff,ff,ff,ff,ff,ff,ff,ff,ff,ff] rfl rfl (any_of HT_.out (by kernel_rfl)) (fun _ _ _ h => h) (Or.inl ⟨by rfl, ?_⟩) ?_ ?_
                      rotate_left; exact slv; rotate_left; exact sla
                      refine pure_ (i := 1) (N := some 54) (v := ?_) (a' := ?_) #[tt,tt,ff,ff,ff,ff,ff,ff,ff,ff,ff,ff,ff,ff,ff,ff,ff,ff,ff,ff,ff,ff,ff,ff,ff,ff,ff,ff,ff,ff,ff] rfl rfl (any_of HT_.out (by kernel_rfl)) (fun _ _ _ h => h) (Or.inl ⟨by rfl, ?_⟩) ?_ ?_
                      rotate_left; exact slv; rotate_left; exact sla
                      refine take_ (i := 2) (N := some 55) (v := ?_) (a' := ?_) #[tt,tt,tt,ff,ff,ff,ff,ff,ff,ff,ff,ff,ff,ff,ff,ff,ff,ff,ff,ff,ff,ff,ff,ff,ff,ff,ff,ff,ff,ff,ff] rfl rfl (take_ofW HT_.out HW_.out (by kernel_rfl)) (fun _ _ _ h => h) (Or.inl ⟨by rfl, ?_⟩) hHeld ?_ ?_
                      rotate_left; exact slt4; rotate_left; exact sla
                      refine pure_ (i := 3) (N := some 56) (v := ?_) (a' := ?_) #[tt,tt,tt,tt,ff,ff,ff,ff,ff,ff,ff,ff,ff,ff,ff,ff,ff,ff,ff,ff,ff,ff,ff,ff,ff,ff,ff,ff,ff,ff,ff] rfl rfl (any_of HT_.out (by kernel_rfl)) (fun _ _ _ h => h) (Or.inl ⟨by rfl, ?_⟩) ?_ ?_
                      rotate_left; exact slv; rotate_left; exact sla
                      refine take_ (i := 4) (N := some 57) (v := ?_) (a' := ?_) #[tt,tt,tt,tt,tt,ff,ff,ff,ff,ff,ff,ff,ff,ff,ff,ff,ff,ff,ff,ff,ff,ff,ff,ff,ff,ff,ff,ff,ff,ff,ff] rfl rfl (take_ofW HT_.out HW_.out (by kernel_rfl)) (fun _ _ _ h => h) (Or.inl ⟨by rfl, ?_⟩) hHeld ?_ ?_
                      rotate_left; exact slt4; rotate_left; exact sla
                      refine pure_ (i := 5) (N := some 58) (v := ?_) (a' := ?_) #[tt,tt,tt,tt,tt,tt,ff,ff,ff,ff,ff,ff,ff,ff,ff,ff,ff,ff,ff,ff,ff,ff,ff,ff,ff,ff,ff,ff,ff,ff,ff] rfl rfl (any_of HT_.out (by kernel_rfl)) (fun _ _ _ h => h) (Or.inl ⟨by rfl, ?_⟩) ?_ ?_
                      rotate_left; exact slv; rotate_left; exact sla
                      refine pure_ (i := 6) (N := some 59) (v := ?_) (a' := ?_) #[tt,tt,tt,tt,tt,tt,tt,ff,ff,ff,ff,ff,ff,ff,ff,ff,ff,ff,ff,ff,ff,ff,ff,ff,ff,ff,ff,ff,ff,ff,ff] rfl rfl (any_of HT_.out (by kernel_rfl)) (fun _ _ _ h => h) (Or.inl ⟨by rfl, ?_⟩) ?_ ?_
                      rotate_left; exact slv; rotate_left; exact sla
                      refine pure_ (i := 7) (N := some 60) (v := ?_) (a' := ?_) #[tt,tt,tt,tt,tt,tt,tt,tt,ff,ff,ff,ff,ff,ff,ff,ff,ff,ff,ff,ff,ff,ff,ff,ff,ff,ff,ff,ff,ff,ff,ff] rfl rfl (any_of HT_.out (by kernel_rfl)) (fun _ _ _ h => h) (Or.inl ⟨by rfl, ?_⟩) ?_ ?_
                      rotate_left; exact slv; rotate_left; exact sla
                      refine pure_ (i := 8) (N := some 61) (v := ?_) (a' := ?_) #[tt,tt,tt,tt,tt,tt,tt,tt,tt,ff,ff,ff,ff,ff,ff,ff,ff,ff,ff,ff,ff,ff,ff,ff,ff,ff,ff,ff,ff,ff,ff] rfl rfl (any_of HT_.out (by kernel_rfl)) (fun _ _ _ h => h) (Or.inl ⟨by rfl, ?_⟩) ?_ ?_
                      rotate_left; exact slv; rotate_left; exact sla
                      refine pure_ (i := 12) (N := some 65) (v := ?_) (a' := ?_) #[tt,tt,tt,tt,tt,tt,tt,tt,tt,ff,ff,ff,tt,ff,ff,ff,ff,ff,ff,ff,ff,ff,ff,ff,ff,ff,ff,ff,ff,ff,ff] rfl rfl (any_of HT_.out (by kernel_rfl)) (fun _ _ _ h => h) (Or.inl ⟨by rfl, ?_⟩) ?_ ?_
                      rotate_left; exact slv; rotate_left; exact sla
                      refine pure_ (i := 15) (N := some 68) (v := ?_) (a' := ?_) #[tt,tt,tt,tt,tt,tt,tt,tt,tt,ff,ff,ff,tt,ff,ff,tt,ff,ff,ff,ff,ff,ff,ff,ff,ff,ff,ff,ff,ff,ff,ff] rfl rfl (any_of HT_.out (by kernel_rfl)) (fun _ _ _ h => h) (Or.inl ⟨by rfl, ?_⟩) ?_ ?_
                      rotate_left; exact slv; rotate_left; exact sla
                      refine pure_ (i := 16) (N := some 69) (v := ?_) (a' := ?_) #[tt,tt,tt,tt,tt,tt,tt,tt,tt,ff,ff,ff,tt,ff,ff,tt,tt,ff,ff,ff,ff,ff,ff,ff,ff,ff,ff,ff,ff,ff,ff] rfl rfl (any_of HT_.out (by kernel_rfl)) (fun _ _ _ h => h) (Or.inl ⟨by rfl, ?_⟩) ?_ ?_
                      rotate_left; exact slv; rotate_left; exact sla
                      refine pure_ (i := 17) (N := some 70) (v := ?_) (a' := ?_) #[tt,tt,tt,tt,tt,tt,tt,tt,tt,ff,ff,ff,tt,ff,ff,tt,tt,tt,ff,ff,ff,ff,ff,ff,ff,ff,ff,ff,ff,ff,ff] rfl rfl (any_of HT_.out (by kernel_rfl)) (fun _ _ _ h => h) (Or.inl ⟨by rfl, ?_⟩) ?_ ?_
                      rotate_left; exact slv; rotate_left; exact sla
                      refine take_ (i := 9) (N := some 62) (v := ?_) (a' := ?_) #[tt,tt,tt,tt,tt,tt,tt,tt,tt,tt,ff,ff,tt,ff,ff,tt,tt,tt,ff,ff,ff,ff,ff,ff,ff,ff,ff,ff,ff,ff,ff] rfl rfl (take_ofW HT_.out HW_.out (by kernel_rfl)) (fun _ _ _ h => h) (Or.inl ⟨by rfl, ?_⟩) hHeld ?_ ?_
                      rotate_left; exact slt4; rotate_left; exact sla
                      refine pure_ (i := 10) (N := some 63) (v := ?_) (a' := ?_) #[tt,tt,tt,tt,tt,tt,tt,tt,tt,tt,tt,ff,tt,ff,ff,tt,tt,tt,ff,ff,ff,ff,ff,ff,ff,ff,ff,ff,ff,ff,ff] rfl rfl (any_of HT_.out (by kernel_rfl)) (fun _ _ _ h => h) (Or.inl ⟨by rfl, ?_⟩) ?_ ?_
                      rotate_left; exact slv; rotate_left; exact sla
                      refine take_ (i := 11) (N := some 64) (v := ?_) (a' := ?_) #[tt,tt,tt,tt,tt,tt,tt,tt,tt,tt,tt,tt,tt,ff,ff,tt,tt,tt,ff,ff,ff,ff,ff,ff,ff,ff,ff,ff,ff,ff,ff] rfl rfl (take_ofW HT_.out HW_.out (by kernel_rfl)) (fun _ _ _ h => h) (Or.inl ⟨by rfl, ?_⟩) hHeld ?_ ?_
                      rotate_left; exact slt4; rotate_left; exact sla
                      refine take_ (i := 13) (N := some 66) (v := ?_) (a' := ?_) #[tt,tt,tt,tt,tt,tt,tt,tt,tt,tt,tt,tt,tt,tt,ff,tt,tt,tt,ff,ff,ff,ff,ff,ff,ff,ff,ff,ff,ff,ff,ff] rfl rfl (take_ofW HT_.out HW_.out (by kernel_rfl)) (fun _ _ _ h => h) (Or.inl ⟨by rfl, ?_⟩) hHeld ?_ ?_
                      rotate_left; exact slt4; rotate_left; exact sla
                      refine pure_ (i := 14) (N := some 67) (v := ?_) (a' := ?_) #[tt,tt,tt,tt,tt,tt,tt,tt,tt,tt,tt,tt,tt,tt,tt,tt,tt,tt,ff,ff,ff,ff,ff,ff,ff,ff,ff,ff,ff,ff,ff] rfl rfl (any_of HT_.out (by kernel_rfl)) (fun _ _ _ h => h) (Or.inl ⟨by rfl, ?_⟩) ?_ ?_
                      rotate_left; exact slv; rotate_left; exact sla
                      refine take_ (i := 18) (N := some 71) (v := ?_) (a' := ?_) #[tt,tt,tt,tt,tt,tt,tt,tt,tt,tt,tt,tt,tt,tt,tt,tt,tt,tt,tt,ff,ff,ff,ff,ff,ff,ff,ff,ff,ff,ff,ff] rfl rfl (take_ofW HT_.out HW_.out (by kernel_rfl)) (fun _ _ _ h => h) (Or.inl ⟨by rfl, ?_⟩) hHeld ?_ ?_
                      rotate_left; exact slt4; rotate_left; exact sla
                      refine pure_ (i := 19) (N := some 72) (v := ?_) (a' := ?_) #[tt,tt,tt,tt,tt,tt,tt,tt,tt,tt,tt,tt,tt,tt,tt,tt,tt,tt,tt,tt,ff,ff,ff,ff,ff,ff,ff,ff,ff,ff,ff] rfl rfl (any_of HT_.out (by kernel_rfl)) (fun _ _ _ h => h) (Or.inl ⟨by rfl, ?_⟩) ?_ ?_
                      rotate_left; exact slv; rotate_left; exact sla
                      refine pure_ (i := 20) (N := some 73) (v := ?_) (a' := ?_) #[tt,tt,tt,tt,tt,tt,tt,tt,tt,tt,tt,tt,tt,tt,tt,tt,tt,tt,tt,tt,tt,ff,ff,ff,ff,ff,ff,ff,ff,ff,ff] rfl rfl (any_of HT_.out (by kernel_rfl)) (fun _ _ _ h => h) (Or.inl ⟨by rfl, ?_⟩) ?_ ?_
                      rotate_left; exact slv; rotate_left; exact sla
                      refine pure_ (i := 21) (N := some 74) (v := ?_) (a' := ?_) #[tt,tt,tt,tt,tt,tt,tt,tt,tt,tt,tt,tt,tt,tt,tt,tt,tt,tt,tt,tt,tt,tt,ff,ff,ff,ff,ff,ff,ff,ff,ff] rfl rfl (any_of HT_.out (by kernel_rfl)) (fun _ _ _ h => h) (Or.inl ⟨by rfl, ?_⟩) ?_ ?_
                      rotate_left; exact slv; rotate_left; exact sla
                      refine pure_ (i := 22) (N := some 75) (v := ?_) (a' := ?_) #[tt,tt,tt,tt,tt,tt,tt,tt,tt,tt,tt,tt,tt,tt,tt,tt,tt,tt,tt,tt,tt,tt,tt,ff,ff,ff,ff,ff,ff,ff,ff] rfl rfl (any_of HT_.out (by kernel_rfl)) (fun _ _ _ h => h) (Or.inl ⟨by rfl, ?_⟩) ?_ ?_
                      rotate_left; exact slv; rotate_left; exact sla
                      refine pure_ (i := 23) (N := some 76) (v := ?_) (a' := ?_) #[tt,tt,tt,tt,tt,tt,tt,tt,tt,tt,tt,tt,tt,tt,tt,tt,tt,tt,tt,tt,tt,tt,tt,tt,ff,ff,ff,ff,ff,ff,ff] rfl rfl (any_of HT_.out (by kernel_rfl)) (fun _ _ _ h => h) (Or.inl ⟨by rfl, ?_⟩) ?_ ?_
                      rotate_left; exact slv; rotate_left; exact sla
                      refine pure_ (i := 24) (N := some 77) (v := ?_) (a' := ?_) #[tt,tt,tt,tt,tt,tt,tt,tt,tt,tt,tt,tt,tt,tt,tt,tt,tt,tt,tt,tt,tt,tt,tt,tt,tt,ff,ff,ff,ff,ff,ff] rfl rfl (any_of HT_.out (by kernel_rfl)) (fun _ _ _ h => h) (Or.inl ⟨by rfl, ?_⟩) ?_ ?_
                      rotate_left; exact slv; rotate_left; exact sla
                      refine pure_ (i := 25) (N := some 78) (v := ?_) (a' := ?_) #[tt,tt,tt,tt,tt,tt,tt,tt,tt,tt,tt,tt,tt,tt,tt,tt,tt,tt,tt,tt,tt,tt,tt,tt,tt,tt,ff,ff,ff,ff,ff] rfl rfl (any_of HT_.out (by kernel_rfl)) (fun _ _ _ h => h) (Or.inl ⟨by rfl, ?_⟩) ?_ ?_
                      rotate_left; exact slv; rotate_left; exact sla
                      refine pure_ (i := 27) (N := some 80) (v := ?_) (a' := ?_) #[tt,tt,tt,tt,tt,tt,tt,tt,tt,tt,tt,tt,tt,tt,tt,tt,tt,tt,tt,tt,tt,tt,tt,tt,tt,tt,ff,tt,ff,ff,ff] rfl rfl (any_of HT_.out (by kernel_rfl)) (fun _ _ _ h => h) (Or.inl ⟨by rfl, ?_⟩) ?_ ?_
                      rotate_left; exact slv; rotate_left; exact sla
                      refine take_ (i := 26) (N := some 79) (v := ?_) (a' := ?_) #[tt,tt,tt,tt,tt,tt,tt,tt,tt,tt,tt,tt,tt,tt,tt,tt,tt,tt,tt,tt,tt,tt,tt,tt,tt,tt,tt,tt,ff,ff,ff] rfl rfl (take_ofW HT_.out HW_.out (by kernel_rfl)) (fun _ _ _ h => h) (Or.inl ⟨by rfl, ?_⟩) hHeld ?_ ?_
                      rotate_left; exact slt4; rotate_left; exact sla
                      refine pure_ (i := 28) (N := some 81) (v := ?_) (a' := ?_) #[tt,tt,tt,tt,tt,tt,tt,tt,tt,tt,tt,tt,tt,tt,tt,tt,tt,tt,tt,tt,tt,tt,tt,tt,tt,tt,tt,tt,tt,ff,ff] rfl rfl (any_of HT_.out (by kernel_rfl)) (fun _ _ _ h => h) (Or.inl ⟨by rfl, ?_⟩) ?_ ?_
                      rotate_left; exact slv; rotate_left; exact sla
                      refine pure_ (i := 29) (N := some 82) (v := ?_) (a' := ?_) #[tt,tt,tt,tt,tt,tt,tt,tt,tt,tt,tt,tt,tt,tt,tt,tt,tt,tt,tt,tt,tt,tt,tt,tt,tt,tt,tt,tt,tt,tt,ff] rfl rfl (any_of HT_.out (by kernel_rfl)) (fun _ _ _ h => h) (Or.inl ⟨by rfl, ?_⟩) ?_ ?_
                      rotate_left; exact slv; rotate_left; exact sla
                      refine pure_ (i := 30) (N := some 83) (v := ?_) (a' := ?_) #[tt,tt,tt,tt,tt,tt,tt,tt,tt,tt,tt,tt,tt,tt,tt,tt,tt,tt,tt,tt,tt,tt,tt,tt,tt,tt,tt,tt,tt,tt,tt] rfl rfl (any_of HT_.out (by kernel_rfl)) (fun _ _ _ h => h) (Or.inl ⟨by rfl, ?_⟩) ?_ ?_
                      rotate_left; exact slv; rotate_left; exact sla
                      refine done_ (done_of HT_.out (by kernel_rfl)) ?_
                      try clear hHeld hwz
                      have hy1 : wB.drew.cell? ⟨gy, 1, none⟩ = some (.int .i64 t) := (blk_cell HXB.out 1).trans rfl
                      have hwk := HWK.out
                      go_wp2
                      go_roundg gk3
                      case measure => first | exact Nat.lt_succ_self _ | omega
                      case rel => exact ⟨k + 1, nx, rfl, by first | rfl | (simp; done) | (rw [hwk]; rfl), HK1, HINV, ⟨below_drew HB6B.out⟩⟩
                · have d2 : (zt + co == za) = false := by rw [beq_eq_false_iff_ne]; exact a2
                  have HA2 := Aside0.mk a2
                  clear a1 a2
                  have HINV : Aside0 (NxInv c u (outOf out u) (k + 1) nx) := ⟨HNX.out.no HLX.out (Or.inl (fun q => HA2.out (HCD.out.1 q).2))⟩
                  have hwz := HWZ.out
                  refine start_ (n := 31) (S := fun w' => w'.cell? ⟨gy, 1, none⟩ = some (.int .i64 t) ∧ w'.cell? ⟨gy, 2, none⟩ = some (.int .i64 co) ∧ w'.cell? ⟨gl, t.toNat, none⟩ = some (.int .i64 zt) ∧ w'.cell? ⟨gl, u.toNat, none⟩ = some (.int .i64 za)) (ds := []) #[ff,ff,ff,ff,ff,ff,ff,ff,ff,ff,ff,ff,ff,ff,ff,ff,ff,ff,ff,ff,ff,ff,ff,ff,ff,ff,ff,ff,ff,ff,ff] (by kernel_rfl) rfl rfl ⟨(blk_cell HXB.out 1).trans rfl, (blk_cell HXB.out 2).trans rfl, HCT.out, HCA.out⟩ (fun hHeld => ?_)
                  refine with_tabW way.tab14 way.bits14 (fun HT_ HW_ => ?_)
                  refine pure_ (i := 0) (N := some 53) (v := ?_) (a' := ?_) #[tt,ff,ff,ff,ff,ff,ff,ff,ff,ff,ff,ff,ff,ff,ff,ff,ff,ff,ff,ff,ff,ff,ff,ff,ff,ff,ff,ff,ff,ff,ff] rfl rfl (any_of HT_.out (by kernel_rfl)) (fun _ _ _ h => h) (Or.inl ⟨by rfl, ?_⟩) ?_ ?_
                  rotate_left; exact slv; rotate_left; exact sla
                  refine pure_ (i := 1) (N := some 54) (v := ?_) (a' := ?_) #[tt,tt,ff,ff,ff,ff,ff,ff,ff,ff,ff,ff,ff,ff,ff,ff,ff,ff,ff,ff,ff,ff,ff,ff,ff,ff,ff,ff,ff,ff,ff] rfl rfl (any_of HT_.out (by kernel_rfl)) (fun _ _ _ h => h) (Or.inl ⟨by rfl, ?_⟩) ?_ ?_
                  rotate_left; exact slv; rotate_left; exact sla
                  refine take_ (i := 2) (N := some 55) (v := ?_) (a' := ?_) #[tt,tt,tt,ff,ff,ff,ff,ff,ff,ff,ff,ff,ff,ff,ff,ff,ff,ff,ff,ff,ff,ff,ff,ff,ff,ff,ff,ff,ff,ff,ff] rfl rfl (take_ofW HT_.out HW_.out (by kernel_rfl)) (fun _ _ _ h => h) (Or.inl ⟨by rfl, ?_⟩) hHeld ?_ ?_
                  rotate_left; exact slt4; rotate_left; exact sla
                  refine pure_ (i := 3) (N := some 56) (v := ?_) (a' := ?_) #[tt,tt,tt,tt,ff,ff,ff,ff,ff,ff,ff,ff,ff,ff,ff,ff,ff,ff,ff,ff,ff,ff,ff,ff,ff,ff,ff,ff,ff,ff,ff] rfl rfl (any_of HT_.out (by kernel_rfl)) (fun _ _ _ h => h) (Or.inl ⟨by rfl, ?_⟩) ?_ ?_
                  rotate_left; exact slv; rotate_left; exact sla
                  refine take_ (i := 4) (N := some 57) (v := ?_) (a' := ?_) #[tt,tt,tt,tt,tt,ff,ff,ff,ff,ff,ff,ff,ff,ff,ff,ff,ff,ff,ff,ff,ff,ff,ff,ff,ff,ff,ff,ff,ff,ff,ff] rfl rfl (take_ofW HT_.out HW_.out (by kernel_rfl)) (fun _ _ _ h => h) (Or.inl ⟨by rfl, ?_⟩) hHeld ?_ ?_
                  rotate_left; exact slt4; rotate_left; exact sla
                  refine pure_ (i := 5) (N := some 58) (v := ?_) (a' := ?_) #[tt,tt,tt,tt,tt,tt,ff,ff,ff,ff,ff,ff,ff,ff,ff,ff,ff,ff,ff,ff,ff,ff,ff,ff,ff,ff,ff,ff,ff,ff,ff] rfl rfl (any_of HT_.out (by kernel_rfl)) (fun _ _ _ h => h) (Or.inl ⟨by rfl, ?_⟩) ?_ ?_
                  rotate_left; exact slv; rotate_left; exact sla
                  refine pure_ (i := 6) (N := some 59) (v := ?_) (a' := ?_) #[tt,tt,tt,tt,tt,tt,tt,ff,ff,ff,ff,ff,ff,ff,ff,ff,ff,ff,ff,ff,ff,ff,ff,ff,ff,ff,ff,ff,ff,ff,ff] rfl rfl (any_of HT_.out (by kernel_rfl)) (fun _ _ _ h => h) (Or.inl ⟨by rfl, ?_⟩) ?_ ?_
                  rotate_left; exact slv; rotate_left; exact sla
                  refine pure_ (i := 7) (N := some 60) (v := ?_) (a' := ?_) #[tt,tt,tt,tt,tt,tt,tt,tt,ff,ff,ff,ff,ff,ff,ff,ff,ff,ff,ff,ff,ff,ff,ff,ff,ff,ff,ff,ff,ff,ff,ff] rfl rfl (any_of HT_.out (by kernel_rfl)) (fun _ _ _ h => h) (Or.inl ⟨by rfl, ?_⟩) ?_ ?_
                  rotate_left; exact slv; rotate_left; exact sla
                  refine pure_ (i := 8) (N := some 61) (v := ?_) (a' := ?_) #[tt,tt,tt,tt,tt,tt,tt,tt,tt,ff,ff,ff,ff,ff,ff,ff,ff,ff,ff,ff,ff,ff,ff,ff,ff,ff,ff,ff,ff,ff,ff] rfl rfl (any_of HT_.out (by kernel_rfl)) (fun _ _ _ h => h) (Or.inl ⟨by rfl, ?_⟩) ?_ ?_
                  rotate_left; exact slv; rotate_left; exact sla
                  refine pure_ (i := 12) (N := some 65) (v := ?_) (a' := ?_) #[tt,tt,tt,tt,tt,tt,tt,tt,tt,ff,ff,ff,tt,ff,ff,ff,ff,ff,ff,ff,ff,ff,ff,ff,ff,ff,ff,ff,ff,ff,ff] rfl rfl (any_of HT_.out (by kernel_rfl)) (fun _ _ _ h => h) (Or.inl ⟨by rfl, ?_⟩) ?_ ?_
                  rotate_left; exact slv; rotate_left; exact sla
                  refine pure_ (i := 15) (N := some 68) (v := ?_) (a' := ?_) #[tt,tt,tt,tt,tt,tt,tt,tt,tt,ff,ff,ff,tt,ff,ff,tt,ff,ff,ff,ff,ff,ff,ff,ff,ff,ff,ff,ff,ff,ff,ff] rfl rfl (any_of HT_.out (by kernel_rfl)) (fun _ _ _ h => h) (Or.inl ⟨by rfl, ?_⟩) ?_ ?_
                  rotate_left; exact slv; rotate_left; exact sla
                  refine pure_ (i := 16) (N := some 69) (v := ?_) (a' := ?_) #[tt,tt,tt,tt,tt,tt,tt,tt,tt,ff,ff,ff,tt,ff,ff,tt,tt,ff,ff,ff,ff,ff,ff,ff,ff,ff,ff,ff,ff,ff,ff] rfl rfl (any_of HT_.out (by kernel_rfl)) (fun _ _ _ h => h) (Or.inl ⟨by rfl, ?_⟩) ?_ ?_
                  rotate_left; exact slv; rotate_left; exact sla
                  refine pure_ (i := 17) (N := some 70) (v := ?_) (a' := ?_) #[tt,tt,tt,tt,tt,tt,tt,tt,tt,ff,ff,ff,tt,ff,ff,tt,tt,tt,ff,ff,ff,ff,ff,ff,ff,ff,ff,ff,ff,ff,ff] rfl rfl (any_of HT_.out (by kernel_rfl)) (fun _ _ _ h => h) (Or.inl ⟨by rfl, ?_⟩) ?_ ?_
                  rotate_left; exact slv; rotate_left; exact sla
                  refine take_ (i := 9) (N := some 62) (v := ?_) (a' := ?_) #[tt,tt,tt,tt,tt,tt,tt,tt,tt,tt,ff,ff,tt,ff,ff,tt,tt,tt,ff,ff,ff,ff,ff,ff,ff,ff,ff,ff,ff,ff,ff] rfl rfl (take_ofW HT_.out HW_.out (by kernel_rfl)) (fun _ _ _ h => h) (Or.inl ⟨by rfl, ?_⟩) hHeld ?_ ?_
                  rotate_left; exact slt4; rotate_left; exact sla
                  refine pure_ (i := 10) (N := some 63) (v := ?_) (a' := ?_) #[tt,tt,tt,tt,tt,tt,tt,tt,tt,tt,tt,ff,tt,ff,ff,tt,tt,tt,ff,ff,ff,ff,ff,ff,ff,ff,ff,ff,ff,ff,ff] rfl rfl (any_of HT_.out (by kernel_rfl)) (fun _ _ _ h => h) (Or.inl ⟨by rfl, ?_⟩) ?_ ?_
                  rotate_left; exact slv; rotate_left; exact sla
                  refine take_ (i := 11) (N := some 64) (v := ?_) (a' := ?_) #[tt,tt,tt,tt,tt,tt,tt,tt,tt,tt,tt,tt,tt,ff,ff,tt,tt,tt,ff,ff,ff,ff,ff,ff,ff,ff,ff,ff,ff,ff,ff] rfl rfl (take_ofW HT_.out HW_.out (by kernel_rfl)) (fun _ _ _ h => h) (Or.inl ⟨by rfl, ?_⟩) hHeld ?_ ?_
                  rotate_left; exact slt4; rotate_left; exact sla
                  refine take_ (i := 13) (N := some 66) (v := ?_) (a' := ?_) #[tt,tt,tt,tt,tt,tt,tt,tt,tt,tt,tt,tt,tt,tt,ff,tt,tt,tt,ff,ff,ff,ff,ff,ff,ff,ff,ff,ff,ff,ff,ff] rfl rfl (take_ofW HT_.out HW_.out (by kernel_rfl)) (fun _ _ _ h => h) (Or.inl ⟨by rfl, ?_⟩) hHeld ?_ ?_
                  rotate_left; exact slt4; rotate_left; exact sla
                  refine pure_ (i := 14) (N := some 67) (v := ?_) (a' := ?_) #[tt,tt,tt,tt,tt,tt,tt,tt,tt,tt,tt,tt,tt,tt,tt,tt,tt,tt,ff,ff,ff,ff,ff,ff,ff,ff,ff,ff,ff,ff,ff] rfl rfl (any_of HT_.out (by kernel_rfl)) (fun _ _ _ h => h) (Or.inl ⟨by rfl, ?_⟩) ?_ ?_
                  rotate_left; exact slv; rotate_left; exact sla
                  refine take_ (i := 18) (N := some 71) (v := ?_) (a' := ?_) #[tt,tt,tt,tt,tt,tt,tt,tt,tt,tt,tt,tt,tt,tt,tt,tt,tt,tt,tt,ff,ff,ff,ff,ff,ff,ff,ff,ff,ff,ff,ff] rfl rfl (take_ofW HT_.out HW_.out (by kernel_rfl)) (fun _ _ _ h => h) (Or.inl ⟨by rfl, ?_⟩) hHeld ?_ ?_
                  rotate_left; exact slt4; rotate_left; exact sla
                  refine pure_ (i := 19) (N := some 72) (v := ?_) (a' := ?_) #[tt,tt,tt,tt,tt,tt,tt,tt,tt,tt,tt,tt,tt,tt,tt,tt,tt,tt,tt,tt,ff,ff,ff,ff,ff,ff,ff,ff,ff,ff,ff] rfl rfl (any_of HT_.out (by kernel_rfl)) (fun _ _ _ h => h) (Or.inl ⟨by rfl, ?_⟩) ?_ ?_
                  rotate_left; exact slv; rotate_left; exact sla
                  refine pure_ (i := 20) (N := some 73) (v := ?_) (a' := ?_) #[tt,tt,tt,tt,tt,tt,tt,tt,tt,tt,tt,tt,tt,tt,tt,tt,tt,tt,tt,tt,tt,ff,ff,ff,ff,ff,ff,ff,ff,ff,ff] rfl rfl (any_of HT_.out (by kernel_rfl)) (fun _ _ _ h => h) (Or.inl ⟨by rfl, ?_⟩) ?_ ?_
                  rotate_left; exact slv; rotate_left; exact sla
                  refine pure_ (i := 21) (N := some 74) (v := ?_) (a' := ?_) #[tt,tt,tt,tt,tt,tt,tt,tt,tt,tt,tt,tt,tt,tt,tt,tt,tt,tt,tt,tt,tt,tt,ff,ff,ff,ff,ff,ff,ff,ff,ff] rfl rfl (any_of HT_.out (by kernel_rfl)) (fun _ _ _ h => h) (Or.inl ⟨by rfl, ?_⟩) ?_ ?_
                  rotate_left; exact slv; rotate_left; exact sla
                  refine pure_ (i := 22) (N := some 75) (v := undef) (a' := ?_) #[tt,tt,tt,tt,tt,tt,tt,tt,tt,tt,tt,tt,tt,tt,tt,tt,tt,tt,tt,tt,tt,tt,tt,ff,ff,ff,ff,ff,ff,ff,ff] rfl rfl (any_of HT_.out (by kernel_rfl)) (fun _ _ _ h => h) (Or.inr ⟨by rfl, rfl⟩) ?_ ?_
                  rotate_left
                  · exact sla
                  refine pure_ (i := 23) (N := some 76) (v := undef) (a' := ?_) #[tt,tt,tt,tt,tt,tt,tt,tt,tt,tt,tt,tt,tt,tt,tt,tt,tt,tt,tt,tt,tt,tt,tt,tt,ff,ff,ff,ff,ff,ff,ff] rfl rfl (any_of HT_.out (by kernel_rfl)) (fun _ _ _ h => h) (Or.inr ⟨by rfl, rfl⟩) ?_ ?_
                  rotate_left
                  · exact sla
                  refine pure_ (i := 24) (N := some 77) (v := undef) (a' := ?_) #[tt,tt,tt,tt,tt,tt,tt,tt,tt,tt,tt,tt,tt,tt,tt,tt,tt,tt,tt,tt,tt,tt,tt,tt,tt,ff,ff,ff,ff,ff,ff] rfl rfl (any_of HT_.out (by kernel_rfl)) (fun _ _ _ h => h) (Or.inr ⟨by rfl, rfl⟩) ?_ ?_
                  rotate_left
                  · exact sla
                  refine pure_ (i := 25) (N := some 78) (v := undef) (a' := ?_) #[tt,tt,tt,tt,tt,tt,tt,tt,tt,tt,tt,tt,tt,tt,tt,tt,tt,tt,tt,tt,tt,tt,tt,tt,tt,tt,ff,ff,ff,ff,ff] rfl rfl (any_of HT_.out (by kernel_rfl)) (fun _ _ _ h => h) (Or.inr ⟨by rfl, rfl⟩) ?_ ?_
                  rotate_left
                  · exact sla
                  refine pure_ (i := 26) (N := some 79) (v := undef) (a' := ?_) #[tt,tt,tt,tt,tt,tt,tt,tt,tt,tt,tt,tt,tt,tt,tt,tt,tt,tt,tt,tt,tt,tt,tt,tt,tt,tt,tt,ff,ff,ff,ff] rfl rfl (any_of HT_.out (by kernel_rfl)) (fun _ _ _ h => h) (Or.inr ⟨by rfl, rfl⟩) ?_ ?_
                  rotate_left
                  · exact sla
                  refine pure_ (i := 27) (N := some 80) (v := undef) (a' := ?_) #[tt,tt,tt,tt,tt,tt,tt,tt,tt,tt,tt,tt,tt,tt,tt,tt,tt,tt,tt,tt,tt,tt,tt,tt,tt,tt,tt,tt,ff,ff,ff] rfl rfl (any_of HT_.out (by kernel_rfl)) (fun _ _ _ h => h) (Or.inr ⟨by rfl, rfl⟩) ?_ ?_
                  rotate_left
                  · exact sla
                  refine pure_ (i := 28) (N := some 81) (v := undef) (a' := ?_) #[tt,tt,tt,tt,tt,tt,tt,tt,tt,tt,tt,tt,tt,tt,tt,tt,tt,tt,tt,tt,tt,tt,tt,tt,tt,tt,tt,tt,tt,ff,ff] rfl rfl (any_of HT_.out (by kernel_rfl)) (fun _ _ _ h => h) (Or.inr ⟨by rfl, rfl⟩) ?_ ?_
                  rotate_left
                  · exact sla
                  refine pure_ (i := 29) (N := some 82) (v := undef) (a' := ?_) #[tt,tt,tt,tt,tt,tt,tt,tt,tt,tt,tt,tt,tt,tt,tt,tt,tt,tt,tt,tt,tt,tt,tt,tt,tt,tt,tt,tt,tt,tt,ff] rfl rfl (any_of HT_.out (by kernel_rfl)) (fun _ _ _ h => h) (Or.inr ⟨by rfl, rfl⟩) ?_ ?_
                  rotate_left
                  · exact sla
                  refine pure_ (i := 30) (N := some 83) (v := ?_) (a' := ?_) #[tt,tt,tt,tt,tt,tt,tt,tt,tt,tt,tt,tt,tt,tt,tt,tt,tt,tt,tt,tt,tt,tt,tt,tt,tt,tt,tt,tt,tt,tt,tt] rfl rfl (any_of HT_.out (by kernel_rfl)) (fun _ _ _ h => h) (Or.inl ⟨by rfl, ?_⟩) ?_ ?_
                  rotate_left; exact slv; rotate_left; exact sla
                  refine done_ (done_of HT_.out (by kernel_rfl)) ?_
                  try clear hHeld hwz
                  have hy1 : wB.drew.cell? ⟨gy, 1, none⟩ = some (.int .i64 t) := (blk_cell HXB.out 1).trans rfl
                  have hwk := HWK.out
                  go_wp2
                  go_roundg gk3
                  case measure => first | exact Nat.lt_succ_self _ | omega
                  case rel => exact ⟨k + 1, nx, rfl, by first | rfl | (simp; done) | (rw [hwk]; rfl), HK1, HINV, ⟨below_drew HB6B.out⟩⟩
              · have d1 : decide (0 ≤ zt) = false := decide_eq_false a1
                have HA1 := Aside0.mk a1
                clear a1
                have HINV : Aside0 (NxInv c u (outOf out u) (k + 1) nx) := ⟨HNX.out.no HLX.out (Or.inl (fun q => HA1.out (HCD.out.1 q).1))⟩
                have hwz := HWZ.out
                refine start_ (n := 31) (S := fun w' => w'.cell? ⟨gy, 1, none⟩ = some (.int .i64 t) ∧ w'.cell? ⟨gy, 2, none⟩ = some (.int .i64 co) ∧ w'.cell? ⟨gl, t.toNat, none⟩ = some (.int .i64 zt) ∧ w'.cell? ⟨gl, u.toNat, none⟩ = some (.int .i64 za)) (ds := []) #[ff,ff,ff,ff,ff,ff,ff,ff,ff,ff,ff,ff,ff,ff,ff,ff,ff,ff,ff,ff,ff,ff,ff,ff,ff,ff,ff,ff,ff,ff,ff] (by kernel_rfl) rfl rfl ⟨(blk_cell HXB.out 1).trans rfl, (blk_cell HXB.out 2).trans rfl, HCT.out, HCA.out⟩ (fun hHeld => ?_)
                refine with_tabW way.tab14 way.bits14 (fun HT_ HW_ => ?_)
                refine pure_ (i := 0) (N := some 53) (v := ?_) (a' := ?_) #[tt,ff,ff,ff,ff,ff,ff,ff,ff,ff,ff,ff,ff,ff,ff,ff,ff,ff,ff,ff,ff,ff,ff,ff,ff,ff,ff,ff,ff,ff,ff] rfl rfl (any_of HT_.out (by kernel_rfl)) (fun _ _ _ h => h) (Or.inl ⟨by rfl, ?_⟩) ?_ ?_
                rotate_left; exact slv; rotate_left; exact sla
                refine pure_ (i := 1) (N := some 54) (v := ?_) (a' := ?_) #[tt,tt,ff,ff,ff,ff,ff,ff,ff,ff,ff,ff,ff,ff,ff,ff,ff,ff,ff,ff,ff,ff,ff,ff,ff,ff,ff,ff,ff,ff,ff] rfl rfl (any_of HT_.out (by kernel_rfl)) (fun _ _ _ h => h) (Or.inl ⟨by rfl, ?_⟩) ?_ ?_
                rotate_left; exact slv; rotate_left; exact sla
                refine take_ (i := 2) (N := some 55) (v := ?_) (a' := ?_) #[tt,tt,tt,ff,ff,ff,ff,ff,ff,ff,ff,ff,ff,ff,ff,ff,ff,ff,ff,ff,ff,ff,ff,ff,ff,ff,ff,ff,ff,ff,ff] rfl rfl (take_ofW HT_.out HW_.out (by kernel_rfl)) (fun _ _ _ h => h) (Or.inl ⟨by rfl, ?_⟩) hHeld ?_ ?_
                rotate_left; exact slt4; rotate_left; exact sla
                refine pure_ (i := 3) (N := some 56) (v := ?_) (a' := ?_) #[tt,tt,tt,tt,ff,ff,ff,ff,ff,ff,ff,ff,ff,ff,ff,ff,ff,ff,ff,ff,ff,ff,ff,ff,ff,ff,ff,ff,ff,ff,ff] rfl rfl (any_of HT_.out (by kernel_rfl)) (fun _ _ _ h => h) (Or.inl ⟨by rfl, ?_⟩) ?_ ?_
                rotate_left; exact slv; rotate_left; exact sla
                refine take_ (i := 4) (N := some 57) (v := ?_) (a' := ?_) #[tt,tt,tt,tt,tt,ff,ff,ff,ff,ff,ff,ff,ff,ff,ff,ff,ff,ff,ff,ff,ff,ff,ff,ff,ff,ff,ff,ff,ff,ff,ff] rfl rfl (take_ofW HT_.out HW_.out (by kernel_rfl)) (fun _ _ _ h => h) (Or.inl ⟨by rfl, ?_⟩) hHeld ?_ ?_
                rotate_left; exact slt4; rotate_left; exact sla
                refine pure_ (i := 5) (N := some 58) (v := ?_) (a' := ?_) #[tt,tt,tt,tt,tt,tt,ff,ff,ff,ff,ff,ff,ff,ff,ff,ff,ff,ff,ff,ff,ff,ff,ff,ff,ff,ff,ff,ff,ff,ff,ff] rfl rfl (any_of HT_.out (by kernel_rfl)) (fun _ _ _ h => h) (Or.inl ⟨by rfl, ?_⟩) ?_ ?_
                rotate_left; exact slv; rotate_left; exact sla
                refine pure_ (i := 6) (N := some 59) (v := ?_) (a' := ?_) #[tt,tt,tt,tt,tt,tt,tt,ff,ff,ff,ff,ff,ff,ff,ff,ff,ff,ff,ff,ff,ff,ff,ff,ff,ff,ff,ff,ff,ff,ff,ff] rfl rfl (any_of HT_.out (by kernel_rfl)) (fun _ _ _ h => h) (Or.inl ⟨by rfl, ?_⟩) ?_ ?_
                rotate_left; exact slv; rotate_left; exact sla
                refine pure_ (i := 7) (N := some 60) (v := undef) (a' := ?_) #[tt,tt,tt,tt,tt,tt,tt,tt,ff,ff,ff,ff,ff,ff,ff,ff,ff,ff,ff,ff,ff,ff,ff,ff,ff,ff,ff,ff,ff,ff,ff] rfl rfl (any_of HT_.out (by kernel_rfl)) (fun _ _ _ h => h) (Or.inr ⟨by rfl, rfl⟩) ?_ ?_
                rotate_left
                · exact sla
                refine pure_ (i := 8) (N := some 61) (v := undef) (a' := ?_) #[tt,tt,tt,tt,tt,tt,tt,tt,tt,ff,ff,ff,ff,ff,ff,ff,ff,ff,ff,ff,ff,ff,ff,ff,ff,ff,ff,ff,ff,ff,ff] rfl rfl (any_of HT_.out (by kernel_rfl)) (fun _ _ _ h => h) (Or.inr ⟨by rfl, rfl⟩) ?_ ?_
                rotate_left
                · exact sla
                refine pure_ (i := 9) (N := some 62) (v := undef) (a' := ?_) #[tt,tt,tt,tt,tt,tt,tt,tt,tt,tt,ff,ff,ff,ff,ff,ff,ff,ff,ff,ff,ff,ff,ff,ff,ff,ff,ff,ff,ff,ff,ff] rfl rfl (any_of HT_.out (by kernel_rfl)) (fun _ _ _ h => h) (Or.inr ⟨by rfl, rfl⟩) ?_ ?_
                rotate_left
                · exact sla
                refine pure_ (i := 10) (N := some 63) (v := undef) (a' := ?_) #[tt,tt,tt,tt,tt,tt,tt,tt,tt,tt,tt,ff,ff,ff,ff,ff,ff,ff,ff,ff,ff,ff,ff,ff,ff,ff,ff,ff,ff,ff,ff] rfl rfl (any_of HT_.out (by kernel_rfl)) (fun _ _ _ h => h) (Or.inr ⟨by rfl, rfl⟩) ?_ ?_
                rotate_left
                · exact sla
                refine pure_ (i := 11) (N := some 64) (v := undef) (a' := ?_) #[tt,tt,tt,tt,tt,tt,tt,tt,tt,tt,tt,tt,ff,ff,ff,ff,ff,ff,ff,ff,ff,ff,ff,ff,ff,ff,ff,ff,ff,ff,ff] rfl rfl (any_of HT_.out (by kernel_rfl)) (fun _ _ _ h => h) (Or.inr ⟨by rfl, rfl⟩) ?_ ?_
                rotate_left
                · exact sla
                refine pure_ (i := 12) (N := some 65) (v := undef) (a' := ?_) #[tt,tt,tt,tt,tt,tt,tt,tt,tt,tt,tt,tt,tt,ff,ff,ff,ff,ff,ff,ff,ff,ff,ff,ff,ff,ff,ff,ff,ff,ff,ff] rfl rfl (any_of HT_.out (by kernel_rfl)) (fun _ _ _ h => h) (Or.inr ⟨by rfl, rfl⟩) ?_ ?_
                rotate_left
                · exact sla
                refine pure_ (i := 13) (N := some 66) (v := undef) (a' := ?_) #[tt,tt,tt,tt,tt,tt,tt,tt,tt,tt,tt,tt,tt,tt,ff,ff,ff,ff,ff,ff,ff,ff,ff,ff,ff,ff,ff,ff,ff,ff,ff] rfl rfl (any_of HT_.out (by kernel_rfl)) (fun _ _ _ h => h) (Or.inr ⟨by rfl, rfl⟩) ?_ ?_
                rotate_left
                · exact sla
                refine pure_ (i := 14) (N := some 67) (v := undef) (a' := ?_) #[tt,tt,tt,tt,tt,tt,tt,tt,tt,tt,tt,tt,tt,tt,tt,ff,ff,ff,ff,ff,ff,ff,ff,ff,ff,ff,ff,ff,ff,ff,ff] rfl rfl (any_of HT_.out (by kernel_rfl)) (fun _ _ _ h => h) (Or.inr ⟨by rfl, rfl⟩) ?_ ?_
                rotate_left
                · exact sla
                refine pure_ (i := 15) (N := some 68) (v := undef) (a' := ?_) #[tt,tt,tt,tt,tt,tt,tt,tt,tt,tt,tt,tt,tt,tt,tt,tt,ff,ff,ff,ff,ff,ff,ff,ff,ff,ff,ff,ff,ff,ff,ff] rfl rfl (any_of HT_.out (by kernel_rfl)) (fun _ _ _ h => h) (Or.inr ⟨by rfl, rfl⟩) ?_ ?_
                rotate_left
                · exact sla
                refine pure_ (i := 16) (N := some 69) (v := undef) (a' := ?_) #[tt,tt,tt,tt,tt,tt,tt,tt,tt,tt,tt,tt,tt,tt,tt,tt,tt,ff,ff,ff,ff,ff,ff,ff,ff,ff,ff,ff,ff,ff,ff] rfl rfl (any_of HT_.out (by kernel_rfl)) (fun _ _ _ h => h) (Or.inr ⟨by rfl, rfl⟩) ?_ ?_
                rotate_left
                · exact sla
                refine pure_ (i := 17) (N := some 70) (v := undef) (a' := ?_) #[tt,tt,tt,tt,tt,tt,tt,tt,tt,tt,tt,tt,tt,tt,tt,tt,tt,tt,ff,ff,ff,ff,ff,ff,ff,ff,ff,ff,ff,ff,ff] rfl rfl (any_of HT_.out (by kernel_rfl)) (fun _ _ _ h => h) (Or.inr ⟨by rfl, rfl⟩) ?_ ?_
                rotate_left
                · exact sla
                refine pure_ (i := 18) (N := some 71) (v := undef) (a' := ?_) #[tt,tt,tt,tt,tt,tt,tt,tt,tt,tt,tt,tt,tt,tt,tt,tt,tt,tt,tt,ff,ff,ff,ff,ff,ff,ff,ff,ff,ff,ff,ff] rfl rfl (any_of HT_.out (by kernel_rfl)) (fun _ _ _ h => h) (Or.inr ⟨by rfl, rfl⟩) ?_ ?_
                rotate_left
                · exact sla
                refine pure_ (i := 19) (N := some 72) (v := undef) (a' := ?_) #[tt,tt,tt,tt,tt,tt,tt,tt,tt,tt,tt,tt,tt,tt,tt,tt,tt,tt,tt,tt,ff,ff,ff,ff,ff,ff,ff,ff,ff,ff,ff] rfl rfl (any_of HT_.out (by kernel_rfl)) (fun _ _ _ h => h) (Or.inr ⟨by rfl, rfl⟩) ?_ ?_
                rotate_left
                · exact sla
                refine pure_ (i := 20) (N := some 73) (v := ?_) (a' := ?_) #[tt,tt,tt,tt,tt,tt,tt,tt,tt,tt,tt,tt,tt,tt,tt,tt,tt,tt,tt,tt,tt,ff,ff,ff,ff,ff,ff,ff,ff,ff,ff] rfl rfl (any_of HT_.out (by kernel_rfl)) (fun _ _ _ h => h) (Or.inl ⟨by rfl, ?_⟩) ?_ ?_
                rotate_left; exact slv; rotate_left; exact sla
                refine pure_ (i := 21) (N := some 74) (v := ?_) (a' := ?_) #[tt,tt,tt,tt,tt,tt,tt,tt,tt,tt,tt,tt,tt,tt,tt,tt,tt,tt,tt,tt,tt,tt,ff,ff,ff,ff,ff,ff,ff,ff,ff] rfl rfl (any_of HT_.out (by kernel_rfl)) (fun _ _ _ h => h) (Or.inl ⟨by rfl, ?_⟩) ?_ ?_
                rotate_left; exact slv; rotate_left; exact sla
                refine pure_ (i := 22) (N := some 75) (v := undef) (a' := ?_) #[tt,tt,tt,tt,tt,tt,tt,tt,tt,tt,tt,tt,tt,tt,tt,tt,tt,tt,tt,tt,tt,tt,tt,ff,ff,ff,ff,ff,ff,ff,ff] rfl rfl (any_of HT_.out (by kernel_rfl)) (fun _ _ _ h => h) (Or.inr ⟨by rfl, rfl⟩) ?_ ?_
                rotate_left
                · exact sla
                refine pure_ (i := 23) (N := some 76) (v := undef) (a' := ?_) #[tt,tt,tt,tt,tt,tt,tt,tt,tt,tt,tt,tt,tt,tt,tt,tt,tt,tt,tt,tt,tt,tt,tt,tt,ff,ff,ff,ff,ff,ff,ff] rfl rfl (any_of HT_.out (by kernel_rfl)) (fun _ _ _ h => h) (Or.inr ⟨by rfl, rfl⟩) ?_ ?_
                rotate_left
                · exact sla
                refine pure_ (i := 24) (N := some 77) (v := undef) (a' := ?_) #[tt,tt,tt,tt,tt,tt,tt,tt,tt,tt,tt,tt,tt,tt,tt,tt,tt,tt,tt,tt,tt,tt,tt,tt,tt,ff,ff,ff,ff,ff,ff] rfl rfl (any_of HT_.out (by kernel_rfl)) (fun _ _ _ h => h) (Or.inr ⟨by rfl, rfl⟩) ?_ ?_
                rotate_left
                · exact sla
                refine pure_ (i := 25) (N := some 78) (v := undef) (a' := ?_) #[tt,tt,tt,tt,tt,tt,tt,tt,tt,tt,tt,tt,tt,tt,tt,tt,tt,tt,tt,tt,tt,tt,tt,tt,tt,tt,ff,ff,ff,ff,ff] rfl rfl (any_of HT_.out (by kernel_rfl)) (fun _ _ _ h => h) (Or.inr ⟨by rfl, rfl⟩) ?_ ?_
                rotate_left
                · exact sla
                refine pure_ (i := 26) (N := some 79) (v := undef) (a' := ?_) #[tt,tt,tt,tt,tt,tt,tt,tt,tt,tt,tt,tt,tt,tt,tt,tt,tt,tt,tt,tt,tt,tt,tt,tt,tt,tt,tt,ff,ff,ff,ff] rfl rfl (any_of HT_.out (by kernel_rfl)) (fun _ _ _ h => h) (Or.inr ⟨by rfl, rfl⟩) ?_ ?_
                rotate_left
                · exact sla
                refine pure_ (i := 27) (N := some 80) (v := undef) (a' := ?_) #[tt,tt,tt,tt,tt,tt,tt,tt,tt,tt,tt,tt,tt,tt,tt,tt,tt,tt,tt,tt,tt,tt,tt,tt,tt,tt,tt,tt,ff,ff,ff] rfl rfl (any_of HT_.out (by kernel_rfl)) (fun _ _ _ h => h) (Or.inr ⟨by rfl, rfl⟩) ?_ ?_
                rotate_left
                · exact sla
                refine pure_ (i := 28) (N := some 81) (v := undef) (a' := ?_) #[tt,tt,tt,tt,tt,tt,tt,tt,tt,tt,tt,tt,tt,tt,tt,tt,tt,tt,tt,tt,tt,tt,tt,tt,tt,tt,tt,tt,tt,ff,ff] rfl rfl (any_of HT_.out (by kernel_rfl)) (fun _ _ _ h => h) (Or.inr ⟨by rfl, rfl⟩) ?_ ?_
                rotate_left
                · exact sla
                refine pure_ (i := 29) (N := some 82) (v := undef) (a' := ?_) #[tt,tt,tt,tt,tt,tt,tt,tt,tt,tt,tt,tt,tt,tt,tt,tt,tt,tt,tt,tt,tt,tt,tt,tt,tt,tt,tt,tt,tt,tt,ff] rfl rfl (any_of HT_.out (by kernel_rfl)) (fun _ _ _ h => h) (Or.inr ⟨by rfl, rfl⟩) ?_ ?_
                rotate_left
                · exact sla
                refine pure_ (i := 30) (N := some 83) (v := ?_) (a' := ?_) #[tt,tt,tt,tt,tt,tt,tt,tt,tt,tt,tt,tt,tt,tt,tt,tt,tt,tt,tt,tt,tt,tt,tt,tt,tt,tt,tt,tt,tt,tt,tt] rfl rfl (any_of HT_.out (by kernel_rfl)) (fun _ _ _ h => h) (Or.inl ⟨by rfl, ?_⟩) ?_ ?_
                rotate_left; exact slv; rotate_left; exact sla
                refine done_ (done_of HT_.out (by kernel_rfl)) ?_
                try clear hHeld hwz
                have hy1 : wB.drew.cell? ⟨gy, 1, none⟩ = some (.int .i64 t) := (blk_cell HXB.out 1).trans rfl
                have hwk := HWK.out
                go_wp2
                go_roundg gk3
                case measure => first | exact Nat.lt_succ_self _ | omega
                case rel => exact ⟨k + 1, nx, rfl, by first | rfl | (simp; done) | (rw [hwk]; rfl), HK1, HINV, ⟨below_drew HB6B.out⟩⟩
end Go.Proofs.Ytgbfhhmmkhjhhaa.Paths
