/- The law CertPairs, walked. Written by wip/gen/cert.py. -/
import Derived.Test.YtmdidgdcdlodlaaA3
import Derived.Test.YtmdidgdcdlodlaaQ10
import Derived.Test.YtmdidgdcdlodlaaQ31
import Derived.Test.YtmdidgdcdlodlaaXAlive
namespace Go.Proofs.Ytmdidgdcdlodlaa.Q
open Go.RowKit Go.Proofs.YtmdidgdcdlodlaaW.PrintWords Go.Proofs.YtmdidgdcdlodlaaW.PrintLast Go.Proofs.YtmdidgdcdlodlaaW.PrintMore
set_option linter.unusedVariables false
set_option linter.unusedSimpArgs false
def cabstandlaw18_CertPairs.T5 : Bool × List (List Nat × List Nat) := (true, [([], []), ([], []), ([0, 1], [0, 1]), ([], []), ([], []), ([3, 4, 2], [3, 4]), ([2, 5], [2, 5]), ([6, 5], [6]), ([7], [7]), ([7], [7]), ([8, 9, 7, 7], [7, 8, 9]), ([7, 10], [7, 10]), ([11, 10], [11]), ([12], [12]), ([12], [12]), ([13, 14, 12, 12], [12, 13, 14]), ([12, 15], [12, 15]), ([16, 15], [16]), ([17, 17], [17]), ([17, 18], [17, 18]), ([19, 18, 0, 1, 2, 3, 4, 5, 6, 7, 8, 9, 10, 11, 12, 13, 14, 15, 16, 17, 18, 19], [19])])
def cabstandlaw18_CertPairs.B5 : List Nat := [0, 0, 3, 0, 0, 31, 63, 127, 255, 255, 1023, 2047, 4095, 8191, 8191, 32767, 65535, 131071, 262143, 524287, 1048575]
theorem cabstandlaw18_CertPairs.tab5 : rtab .any (opsOf Try.f4 5) = cabstandlaw18_CertPairs.T5 := by kernel_rfl
theorem cabstandlaw18_CertPairs.bits5 : waitsOk cabstandlaw18_CertPairs.T5.2 cabstandlaw18_CertPairs.B5 = true := by kernel_rfl
set_option maxHeartbeats 8000000 in
set_option maxRecDepth 100000 in
theorem certPairs_walk (R C : Int) (A0 : Option Addr) (c0 : Nat) (es : List S69) (A1 : Option Addr) (c1 : Nat) (ps : List S50) (w : World) (hr0 : Kd.C k69 w A0 es.length es) (hc0 : es.length ≤ c0) (hl0 : es.length ≤ 140737488351232) (hr1 : Kd.C k50 w A1 ps.length ps) (hc1 : ps.length ≤ c1) (hl1 : ps.length ≤ 140737488351232) (hf : es.length ≤ 1048576 → ps.length ≤ 1048576 → ∃ k r, cert_Pairs.f R C es ps = some r ∧ cabstandref18_Pairs.f k R C es ps = some r) :
    Calls Try.prog 4 #[.agg #[.int .i64 R, .int .i64 C, .slice A0 es.length c0], .slice A1 ps.length c1] w fun e w' => e = .returned (.bool true) ∧ Below w.heap.size w w' := by
  have HR0 := Aside0.mk hr0
  have HC0 := Aside0.mk hc0
  have HR1 := Aside0.mk hr1
  have HC1 := Aside0.mk hc1
  have HF := Aside0.mk hf
  obtain ⟨bb, hbb, hsum⟩ := beyond_is [(es.length : Int), (ps.length : Int)] (by intro x hx; simp at hx; omega) (by simp)
  have HBB := Aside0.mk hbb
  clear hr0 hc0 hr1 hc1 hf hbb
  go_enter Try.func4, Try.ntmps4
  go_wp2_with fail
  refine (cabstandlaw01_Beyond.calls _ (some ⟨w.heap.size + 1, 0, none⟩) 2 [(es.length : Int), (ps.length : Int)] bb _ (ints_at (by rw [<- World.size_alloc w _]; exact blk_new _ _) (by simp)) (by simp) HBB.out).mono ?_
  rintro e w1 ⟨rfl, hd⟩
  have HB1 : Aside0 (Below w.heap.size w w1) := ⟨by obtain ⟨n, rfl⟩ := hd; exact pw_below_drewN (below_alloc (below_alloc (Below.refl _ _) _) _) _⟩
  have hk : w1.heap[w.heap.size]? = some (.cells #[.int .i64 R, .int .i64 C, .slice A0 es.length c0] 24 (0, 0)) := by obtain ⟨n, rfl⟩ := hd; exact blk_alloc (blk_new w _) _
  have KG1 := Aside0.mk hk
  clear hd hk
  cases bb with
  | true =>
    go_wp2
    go_ret
    exact ⟨rfl, HB1.out⟩
  | false =>
    have HS0 : Aside0 (es.length ≤ 1048576) := ⟨by have h := hsum rfl; simp at h; omega⟩
    have HS1 : Aside0 (ps.length ≤ 1048576) := ⟨by have h := hsum rfl; simp at h; omega⟩
    clear hsum HBB
    have gc0 : w1.cell? ⟨w.heap.size, 0, none⟩ = some (.int .i64 R) := (blk_cell KG1.out 0).trans rfl
    have gc1 : w1.cell? ⟨w.heap.size, 1, none⟩ = some (.int .i64 C) := (blk_cell KG1.out 1).trans rfl
    have gc2 : w1.cell? ⟨w.heap.size, 2, none⟩ = some (.slice A0 es.length c0) := (blk_cell KG1.out 2).trans rfl
    go_wp2_with fail
    refine (twinGraph_calls R C A0 c0 es w1 (Kd.C_below HR0.out HB1.out) HC0.out HS0.out).mono ?_
    rintro e w2 ⟨go, co, rfl, hm, hb⟩
    have HME2 : Aside0 (MEdges w2 w.heap.size go co es) := ⟨hm.lower HB1.out.size⟩
    have HB2 : Aside0 (Below w.heap.size w w2) := ⟨below_step HB1.out hb⟩
    have KG2 := Aside0.mk ((hb.block w.heap.size (blk_lt KG1.out)).trans KG1.out)
    clear hm hb gc0 gc1 gc2 KG1 HB1
    go_wp2_with fail
    have hba : Below w2.heap.size w2 (w2.alloc (.cells #[.int .i64 R, .int .i64 C, .slice (some ⟨go, 0, none⟩) es.length co] 24)) := below_new _ _
    have hki : (w2.alloc (.cells #[.int .i64 R, .int .i64 C, .slice (some ⟨go, 0, none⟩) es.length co] 24)).heap[w2.heap.size]? = some (.cells #[.int .i64 R, .int .i64 C, .slice (some ⟨go, 0, none⟩) es.length co] 24 (0, 0)) := blk_new _ _
    have HBA := Aside0.mk (below_step HB2.out hba)
    have KGA : Aside0 ((w2.alloc (.cells #[.int .i64 R, .int .i64 C, .slice (some ⟨go, 0, none⟩) es.length co] 24)).heap[w.heap.size]? = some _) := ⟨(hba.block w.heap.size (blk_lt KG2.out)).trans KG2.out⟩
    have HMEA := Aside0.mk (HME2.out.below hba)
    have KIA := Aside0.mk hki
    clear hba hki
    refine (twinPairs_calls A1 c1 ps _ (Kd.C_below HR1.out HBA.out) HC1.out HS1.out).mono ?_
    rintro e w3 ⟨gP, cP, rfl, hm, hb⟩
    have HMP3 : Aside0 (MPairs w3 w.heap.size gP cP ps) := ⟨hm.lower HBA.out.size⟩
    have HB3 : Aside0 (Below w.heap.size w w3) := ⟨below_step HBA.out hb⟩
    have KG3 := Aside0.mk ((hb.block w.heap.size (blk_lt KGA.out)).trans KGA.out)
    have KI3 := Aside0.mk ((hb.block w2.heap.size (blk_lt KIA.out)).trans KIA.out)
    have HME3 := Aside0.mk (HMEA.out.below hb)
    clear hm hb HBA KGA KIA HMEA
    obtain ⟨kf, r, hf1, hf2⟩ := HF.out HS0.out HS1.out
    have HF1 := Aside0.mk hf1
    have HF2 := Aside0.mk hf2
    clear hf1 hf2
    go_wp2_with fail
    have HB4 := Aside0.mk (below_drew1 HB3.out)
    have KG4 := Aside0.mk (blk_drew KG3.out)
    have KI4 := Aside0.mk (blk_drew KI3.out)
    have HME4 := Aside0.mk (HME3.out.below (below_drew (Below.refl _ _)))
    have HMP4 := Aside0.mk (HMP3.out.below (below_drew (Below.refl _ _)))
    clear HB3 KG3 KI3 HME3 HMP3
    refine start_ (n := 21) (S := fun w' => w'.cell? ⟨w2.heap.size, 0, none⟩ = some (.int .i64 R) ∧ w'.cell? ⟨w2.heap.size, 1, none⟩ = some (.int .i64 C) ∧ w'.cell? ⟨w2.heap.size, 2, none⟩ = some (.slice (some ⟨go, 0, none⟩) es.length co) ∧ w'.cell? ⟨w.heap.size, 0, none⟩ = some (.int .i64 R) ∧ w'.cell? ⟨w.heap.size, 1, none⟩ = some (.int .i64 C) ∧ w'.cell? ⟨w.heap.size, 2, none⟩ = some (.slice A0 es.length c0)) (ds := []) #[false, false, false, false, false, false, false, false, false, false, false, false, false, false, false, false, false, false, false, false, false] (by kernel_rfl) rfl rfl ⟨(blk_cell KI4.out 0).trans rfl, (blk_cell KI4.out 1).trans rfl, (blk_cell KI4.out 2).trans rfl, (blk_cell KG4.out 0).trans rfl, (blk_cell KG4.out 1).trans rfl, (blk_cell KG4.out 2).trans rfl⟩ (fun hHeld => ?_)
    refine with_tabW cabstandlaw18_CertPairs.tab5 cabstandlaw18_CertPairs.bits5 (fun HT_ HW_ => ?_)
    generalize w3.drew = w4 at HB4 KG4 KI4 HME4 HMP4 hHeld ⊢
    refine pure_ (i := 1) (N := some 19) (v := ?_) (a' := ?_) #[false, true, false, false, false, false, false, false, false, false, false, false, false, false, false, false, false, false, false, false, false] rfl rfl (any_of HT_.out (by kernel_rfl)) (fun _ _ _ h => h) (Or.inl ⟨by rfl, ?_⟩) ?_ ?_
    rotate_left
    · intro w'
      go_simp
      with_reducible rfl
    rotate_left
    · simp only [Act.put, List.setIfInBounds_toArray, List.set_cons_zero, List.set_cons_succ, i64_w, i32_w]
      rfl
    refine pure_ (i := 4) (N := some 22) (v := ?_) (a' := ?_) #[false, true, false, false, true, false, false, false, false, false, false, false, false, false, false, false, false, false, false, false, false] rfl rfl (any_of HT_.out (by kernel_rfl)) (fun _ _ _ h => h) (Or.inl ⟨by rfl, ?_⟩) ?_ ?_
    rotate_left
    · intro w'
      go_simp
      with_reducible rfl
    rotate_left
    · simp only [Act.put, List.setIfInBounds_toArray, List.set_cons_zero, List.set_cons_succ, i64_w, i32_w]
      rfl
    refine take_ (i := 0) (N := some 18) (v := ?_) (a' := ?_) #[true, true, false, false, true, false, false, false, false, false, false, false, false, false, false, false, false, false, false, false, false] rfl rfl (take_ofW HT_.out HW_.out (by kernel_rfl)) (fun _ _ _ h => h) (Or.inl ⟨by rfl, ?_⟩) hHeld ?_ ?_
    rotate_left
    · rintro w' ⟨s0, s1, s2, s3, s4, s5⟩
      go_simp
      with_reducible rfl
    rotate_left
    · simp only [Act.put, List.setIfInBounds_toArray, List.set_cons_zero, List.set_cons_succ, i64_w, i32_w]
      rfl
    refine take_ (i := 3) (N := some 21) (v := ?_) (a' := ?_) #[true, true, false, true, true, false, false, false, false, false, false, false, false, false, false, false, false, false, false, false, false] rfl rfl (take_ofW HT_.out HW_.out (by kernel_rfl)) (fun _ _ _ h => h) (Or.inl ⟨by rfl, ?_⟩) hHeld ?_ ?_
    rotate_left
    · rintro w' ⟨s0, s1, s2, s3, s4, s5⟩
      go_simp
      with_reducible rfl
    rotate_left
    · simp only [Act.put, List.setIfInBounds_toArray, List.set_cons_zero, List.set_cons_succ, i64_w, i32_w]
      rfl
    refine one_ (i := 2) (N := some 20) #[true, true, true, true, true, false, false, false, false, false, false, false, false, false, false, false, false, false, false, false, false] rfl rfl (one_of HT_.out (by kernel_rfl)) (by decide) (fun K hK => ?_)
    refine goes_ Try.func19 (by kernel_rfl) rfl #[.agg #[.int .i64 R, .int .i64 C, .slice (some ⟨go, 0, none⟩) es.length co], .slice (some ⟨gP, 0, none⟩) ps.length cP] (by rfl) rfl rfl (by (try simp only [List.map_toArray, List.map_cons, List.map_nil]); first | done | rfl) ?_
    refine (cert_Pairs.calls R C (some ⟨go, 0, none⟩) co es (some ⟨gP, 0, none⟩) cP ps r w4 HME4.out.reads (Nat.le_of_lt HME4.out.lt) HMP4.out.reads (Nat.le_of_lt HMP4.out.lt) HF1.out).mono ?_
    rintro e w5 ⟨rfl, hb⟩
    refine ⟨_, rfl, ?_⟩
    have HB5 : Aside0 (Below w.heap.size w w5) := ⟨below_step HB4.out hb⟩
    have KG5 := Aside0.mk ((hb.block w.heap.size (blk_lt KG4.out)).trans KG4.out)
    have KI5 := Aside0.mk ((hb.block w2.heap.size (blk_lt KI4.out)).trans KI4.out)
    have HME5 := Aside0.mk (HME4.out.below hb)
    have HMP5 := Aside0.mk (HMP4.out.below hb)
    clear hb HB4 KG4 KI4 HME4 HMP4
    refine hK.out _ _ ⟨(blk_cell KI5.out 0).trans rfl, (blk_cell KI5.out 1).trans rfl, (blk_cell KI5.out 2).trans rfl, (blk_cell KG5.out 0).trans rfl, (blk_cell KG5.out 1).trans rfl, (blk_cell KG5.out 2).trans rfl⟩ (fun hHeld => ?_)
    clear hK K
    refine norm_ (a' := ?_) ?_ ?_
    rotate_left
    · show Act.put _ (some 20) _ = _
      simp only [Act.put, List.setIfInBounds_toArray, List.set_cons_zero, List.set_cons_succ, i64_w, i32_w]
      rfl
    refine one_ (i := 5) (N := some 23) #[true, true, true, true, true, true, false, false, false, false, false, false, false, false, false, false, false, false, false, false, false] rfl rfl (one_of HT_.out (by kernel_rfl)) (by decide) (fun K hK => ?_)
    refine goes_ Try.func20 (by kernel_rfl) rfl #[.agg #[.int .i64 R, .int .i64 C, .slice A0 es.length c0], .slice A1 ps.length c1] (by rfl) rfl rfl (by (try simp only [List.map_toArray, List.map_cons, List.map_nil]); first | done | rfl) ?_
    refine (cabstandref18_Pairs.calls kf R C A0 c0 es A1 c1 ps r w5 (Kd.C_below HR0.out HB5.out) HC0.out (Kd.C_below HR1.out HB5.out) HC1.out HF2.out).mono ?_
    rintro e w6 ⟨rfl, hb⟩
    refine ⟨_, rfl, ?_⟩
    have HB6 : Aside0 (Below w.heap.size w w6) := ⟨below_step HB5.out hb⟩
    have KG6 := Aside0.mk ((hb.block w.heap.size (blk_lt KG5.out)).trans KG5.out)
    have KI6 := Aside0.mk ((hb.block w2.heap.size (blk_lt KI5.out)).trans KI5.out)
    have HME6 := Aside0.mk (HME5.out.below hb)
    have HMP6 := Aside0.mk (HMP5.out.below hb)
    clear hb HB5 KG5 KI5 HME5 HMP5
    refine hK.out _ _ ⟨(blk_cell KI6.out 0).trans rfl, (blk_cell KI6.out 1).trans rfl, (blk_cell KI6.out 2).trans rfl, (blk_cell KG6.out 0).trans rfl, (blk_cell KG6.out 1).trans rfl, (blk_cell KG6.out 2).trans rfl⟩ (fun hHeld => ?_)
    clear hK K
    refine norm_ (a' := ?_) ?_ ?_
    rotate_left
    · show Act.put _ (some 23) _ = _
      simp only [Act.put, List.setIfInBounds_toArray, List.set_cons_zero, List.set_cons_succ, i64_w, i32_w]
      rfl
    refine pure_ (i := 6) (N := some 24) (v := ?_) (a' := ?_) #[true, true, true, true, true, true, true, false, false, false, false, false, false, false, false, false, false, false, false, false, false] rfl rfl (any_of HT_.out (by kernel_rfl)) (fun _ _ _ h => h) (Or.inl ⟨by rfl, ?_⟩) ?_ ?_
    rotate_left
    · intro w'
      go_simp
      with_reducible rfl
    rotate_left
    · simp only [Act.put, List.setIfInBounds_toArray, List.set_cons_zero, List.set_cons_succ, i64_w, i32_w]
      rfl
    refine pure_ (i := 7) (N := some 25) (v := ?_) (a' := ?_) #[true, true, true, true, true, true, true, true, false, false, false, false, false, false, false, false, false, false, false, false, false] rfl rfl (any_of HT_.out (by kernel_rfl)) (fun _ _ _ h => h) (Or.inl ⟨by rfl, ?_⟩) ?_ ?_
    rotate_left
    · intro w'
      go_simp
      with_reducible rfl
    rotate_left
    · simp only [Act.put, List.setIfInBounds_toArray, List.set_cons_zero, List.set_cons_succ, i64_w, i32_w]
      rfl
    refine take_ (i := 8) (N := some 26) (v := ?_) (a' := ?_) #[true, true, true, true, true, true, true, true, true, false, false, false, false, false, false, false, false, false, false, false, false] rfl rfl (take_ofW HT_.out HW_.out (by kernel_rfl)) (fun _ _ _ h => h) (Or.inl ⟨by rfl, ?_⟩) hHeld ?_ ?_
    rotate_left
    · rintro w' ⟨s0, s1, s2, s3, s4, s5⟩
      go_simp
      with_reducible rfl
    rotate_left
    · simp only [Act.put, List.setIfInBounds_toArray, List.set_cons_zero, List.set_cons_succ, i64_w, i32_w]
      rfl
    refine take_ (i := 9) (N := some 27) (v := ?_) (a' := ?_) #[true, true, true, true, true, true, true, true, true, true, false, false, false, false, false, false, false, false, false, false, false] rfl rfl (take_ofW HT_.out HW_.out (by kernel_rfl)) (fun _ _ _ h => h) (Or.inl ⟨by rfl, ?_⟩) hHeld ?_ ?_
    rotate_left
    · rintro w' ⟨s0, s1, s2, s3, s4, s5⟩
      go_simp
      with_reducible rfl
    rotate_left
    · simp only [Act.put, List.setIfInBounds_toArray, List.set_cons_zero, List.set_cons_succ, i64_w, i32_w]
      rfl
    refine one_ (i := 10) (N := some 28) #[true, true, true, true, true, true, true, true, true, true, true, false, false, false, false, false, false, false, false, false, false] rfl rfl (one_of HT_.out (by kernel_rfl)) (by decide) (fun K hK => ?_)
    refine goes_ Try.func15 (by kernel_rfl) rfl #[.agg #[.int .i64 R, .int .i64 C, .slice (some ⟨go, 0, none⟩) es.length co], .agg #[.int .i64 R, .int .i64 C, .slice A0 es.length c0]] (by rfl) rfl rfl (by (try simp only [List.map_toArray, List.map_cons, List.map_nil]); first | done | rfl) ?_
    refine (leftGraph_calls w.heap.size go co R C es A0 c0 w6 HME6.out (Kd.C_below HR0.out HB6.out) HC0.out HS0.out).mono ?_
    rintro e w7 ⟨rfl, hb⟩
    refine ⟨_, rfl, ?_⟩
    have HB7 : Aside0 (Below w.heap.size w w7) := ⟨below_step HB6.out hb⟩
    have KG7 := Aside0.mk ((hb.block w.heap.size (blk_lt KG6.out)).trans KG6.out)
    have KI7 := Aside0.mk ((hb.block w2.heap.size (blk_lt KI6.out)).trans KI6.out)
    have HME7 := Aside0.mk (HME6.out.below hb)
    have HMP7 := Aside0.mk (HMP6.out.below hb)
    clear hb HB6 KG6 KI6 HME6 HMP6
    refine hK.out _ _ ⟨(blk_cell KI7.out 0).trans rfl, (blk_cell KI7.out 1).trans rfl, (blk_cell KI7.out 2).trans rfl, (blk_cell KG7.out 0).trans rfl, (blk_cell KG7.out 1).trans rfl, (blk_cell KG7.out 2).trans rfl⟩ (fun hHeld => ?_)
    clear hK K
    refine norm_ (a' := ?_) ?_ ?_
    rotate_left
    · show Act.put _ (some 28) _ = _
      simp only [Act.put, List.setIfInBounds_toArray, List.set_cons_zero, List.set_cons_succ, i64_w, i32_w]
      rfl
    refine pure_ (i := 11) (N := some 29) (v := ?_) (a' := ?_) #[true, true, true, true, true, true, true, true, true, true, true, true, false, false, false, false, false, false, false, false, false] rfl rfl (any_of HT_.out (by kernel_rfl)) (fun _ _ _ h => h) (Or.inl ⟨by rfl, ?_⟩) ?_ ?_
    rotate_left
    · intro w'
      go_simp
      with_reducible rfl
    rotate_left
    · simp only [Act.put, List.setIfInBounds_toArray, List.set_cons_zero, List.set_cons_succ, i64_w, i32_w]
      rfl
    refine pure_ (i := 12) (N := some 30) (v := ?_) (a' := ?_) #[true, true, true, true, true, true, true, true, true, true, true, true, true, false, false, false, false, false, false, false, false] rfl rfl (any_of HT_.out (by kernel_rfl)) (fun _ _ _ h => h) (Or.inl ⟨by rfl, ?_⟩) ?_ ?_
    rotate_left
    · intro w'
      go_simp
      with_reducible rfl
    rotate_left
    · simp only [Act.put, List.setIfInBounds_toArray, List.set_cons_zero, List.set_cons_succ, i64_w, i32_w]
      rfl
    refine pure_ (i := 13) (N := some 31) (v := ?_) (a' := ?_) #[true, true, true, true, true, true, true, true, true, true, true, true, true, true, false, false, false, false, false, false, false] rfl rfl (any_of HT_.out (by kernel_rfl)) (fun _ _ _ h => h) (Or.inl ⟨by rfl, ?_⟩) ?_ ?_
    rotate_left
    · intro w'
      go_simp
      with_reducible rfl
    rotate_left
    · simp only [Act.put, List.setIfInBounds_toArray, List.set_cons_zero, List.set_cons_succ, i64_w, i32_w]
      rfl
    refine pure_ (i := 14) (N := some 32) (v := ?_) (a' := ?_) #[true, true, true, true, true, true, true, true, true, true, true, true, true, true, true, false, false, false, false, false, false] rfl rfl (any_of HT_.out (by kernel_rfl)) (fun _ _ _ h => h) (Or.inl ⟨by rfl, ?_⟩) ?_ ?_
    rotate_left
    · intro w'
      go_simp
      with_reducible rfl
    rotate_left
    · simp only [Act.put, List.setIfInBounds_toArray, List.set_cons_zero, List.set_cons_succ, i64_w, i32_w]
      rfl
    refine one_ (i := 15) (N := some 33) #[true, true, true, true, true, true, true, true, true, true, true, true, true, true, true, true, false, false, false, false, false] rfl rfl (one_of HT_.out (by kernel_rfl)) (by decide) (fun K hK => ?_)
    refine goes_ Try.func21 (by kernel_rfl) rfl #[.slice (some ⟨gP, 0, none⟩) ps.length cP, .slice A1 ps.length c1] (by rfl) rfl rfl (by (try simp only [List.map_toArray, List.map_cons, List.map_nil]); first | done | rfl) ?_
    refine (leftPairs_calls w.heap.size gP cP ps A1 c1 w7 HMP7.out (Kd.C_below HR1.out HB7.out) HC1.out HS1.out).mono ?_
    rintro e w8 ⟨rfl, hb⟩
    refine ⟨_, rfl, ?_⟩
    have HB8 : Aside0 (Below w.heap.size w w8) := ⟨below_step HB7.out hb⟩
    have KG8 := Aside0.mk ((hb.block w.heap.size (blk_lt KG7.out)).trans KG7.out)
    have KI8 := Aside0.mk ((hb.block w2.heap.size (blk_lt KI7.out)).trans KI7.out)
    have HME8 := Aside0.mk (HME7.out.below hb)
    have HMP8 := Aside0.mk (HMP7.out.below hb)
    clear hb HB7 KG7 KI7 HME7 HMP7
    refine hK.out _ _ ⟨(blk_cell KI8.out 0).trans rfl, (blk_cell KI8.out 1).trans rfl, (blk_cell KI8.out 2).trans rfl, (blk_cell KG8.out 0).trans rfl, (blk_cell KG8.out 1).trans rfl, (blk_cell KG8.out 2).trans rfl⟩ (fun hHeld => ?_)
    clear hK K
    refine norm_ (a' := ?_) ?_ ?_
    rotate_left
    · show Act.put _ (some 33) _ = _
      simp only [Act.put, List.setIfInBounds_toArray, List.set_cons_zero, List.set_cons_succ, i64_w, i32_w]
      rfl
    refine pure_ (i := 16) (N := some 34) (v := ?_) (a' := ?_) #[true, true, true, true, true, true, true, true, true, true, true, true, true, true, true, true, true, false, false, false, false] rfl rfl (any_of HT_.out (by kernel_rfl)) (fun _ _ _ h => h) (Or.inl ⟨by rfl, ?_⟩) ?_ ?_
    rotate_left
    · intro w'
      go_simp
      with_reducible rfl
    rotate_left
    · simp only [Act.put, List.setIfInBounds_toArray, List.set_cons_zero, List.set_cons_succ, i64_w, i32_w]
      rfl
    refine pure_ (i := 17) (N := some 35) (v := ?_) (a' := ?_) #[true, true, true, true, true, true, true, true, true, true, true, true, true, true, true, true, true, true, false, false, false] rfl rfl (any_of HT_.out (by kernel_rfl)) (fun _ _ _ h => h) (Or.inl ⟨by rfl, ?_⟩) ?_ ?_
    rotate_left
    · intro w'
      go_simp
      with_reducible rfl
    rotate_left
    · simp only [Act.put, List.setIfInBounds_toArray, List.set_cons_zero, List.set_cons_succ, i64_w, i32_w]
      rfl
    refine one_ (i := 18) (N := some 36) #[true, true, true, true, true, true, true, true, true, true, true, true, true, true, true, true, true, true, true, false, false] rfl rfl (one_of HT_.out (by kernel_rfl)) (by decide) (fun K hK => ?_)
    refine goes_ Try.func17 (by kernel_rfl) rfl #[] (by rfl) rfl rfl (by (try simp only [List.map_toArray, List.map_cons, List.map_nil]); first | done | rfl) ?_
    refine (alive_walk w8).mono ?_
    rintro e w9 ⟨rfl, hb⟩
    refine ⟨_, rfl, ?_⟩
    have HB9 : Aside0 (Below w.heap.size w w9) := ⟨below_step HB8.out hb⟩
    have KG9 := Aside0.mk ((hb.block w.heap.size (blk_lt KG8.out)).trans KG8.out)
    have KI9 := Aside0.mk ((hb.block w2.heap.size (blk_lt KI8.out)).trans KI8.out)
    have HME9 := Aside0.mk (HME8.out.below hb)
    have HMP9 := Aside0.mk (HMP8.out.below hb)
    clear hb HB8 KG8 KI8 HME8 HMP8
    refine hK.out _ _ ⟨(blk_cell KI9.out 0).trans rfl, (blk_cell KI9.out 1).trans rfl, (blk_cell KI9.out 2).trans rfl, (blk_cell KG9.out 0).trans rfl, (blk_cell KG9.out 1).trans rfl, (blk_cell KG9.out 2).trans rfl⟩ (fun hHeld => ?_)
    clear hK K
    refine norm_ (a' := ?_) ?_ ?_
    rotate_left
    · show Act.put _ (some 36) _ = _
      simp only [Act.put, List.setIfInBounds_toArray, List.set_cons_zero, List.set_cons_succ, i64_w, i32_w]
      rfl
    refine pure_ (i := 19) (N := some 37) (v := ?_) (a' := ?_) #[true, true, true, true, true, true, true, true, true, true, true, true, true, true, true, true, true, true, true, true, false] rfl rfl (any_of HT_.out (by kernel_rfl)) (fun _ _ _ h => h) (Or.inl ⟨by rfl, ?_⟩) ?_ ?_
    rotate_left
    · intro w'
      go_simp
      with_reducible rfl
    rotate_left
    · simp only [Act.put, List.setIfInBounds_toArray, List.set_cons_zero, List.set_cons_succ, i64_w, i32_w]
      rfl
    refine pure_ (i := 20) (N := some 4) (v := ?_) (a' := ?_) #[true, true, true, true, true, true, true, true, true, true, true, true, true, true, true, true, true, true, true, true, true] rfl rfl (any_of HT_.out (by kernel_rfl)) (fun _ _ _ h => h) (Or.inl ⟨by rfl, ?_⟩) ?_ ?_
    rotate_left
    · intro w'
      go_simp
      with_reducible rfl
    rotate_left
    · simp only [Act.put, List.setIfInBounds_toArray, List.set_cons_zero, List.set_cons_succ, i64_w, i32_w]
      rfl
    refine done_ (done_of HT_.out (by kernel_rfl)) ?_
    try go_wp2
    go_ret
    exact ⟨rfl, HB9.out⟩
end Go.Proofs.Ytmdidgdcdlodlaa.Q
