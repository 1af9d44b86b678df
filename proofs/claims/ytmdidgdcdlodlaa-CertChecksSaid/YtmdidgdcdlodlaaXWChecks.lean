/- The law CertChecks, walked. Written by wip/gen/checks.py. -/
import Derived.Test.YtmdidgdcdlodlaaXG2
import Derived.Test.YtmdidgdcdlodlaaXTwinCert
import Derived.Test.YtmdidgdcdlodlaaXRef3
import Derived.Test.YtmdidgdcdlodlaaXAlive
namespace Go.Proofs.Ytmdidgdcdlodlaa.Q
open Go.RowKit Go.Proofs.YtmdidgdcdlodlaaW.PrintWords Go.Proofs.YtmdidgdcdlodlaaW.PrintLast Go.Proofs.YtmdidgdcdlodlaaW.PrintMore
set_option linter.unusedVariables false
set_option linter.unusedSimpArgs false
def certChecks_T5 : Bool × List (List Nat × List Nat) := (true, [([], []), ([], []), ([0, 1], [0, 1]), ([], []), ([], []), ([3, 4, 2], [3, 4]), ([2, 5], [2, 5]), ([6, 5], [6]), ([7], [7]), ([7], [7]), ([8, 9, 7, 7], [7, 8, 9]), ([10, 7], [7, 10]), ([7, 11], [7, 11]), ([12, 10], [12]), ([13], [13]), ([13], [13]), ([14, 15, 13, 13], [13, 14, 15]), ([16, 13], [13, 16]), ([13, 17], [13, 17])])
def certChecks_B5 : List Nat := [0, 0, 3, 0, 0, 31, 63, 127, 255, 255, 1023, 2047, 4095, 8191, 16383, 16383, 65535, 131071, 262143]
theorem certChecks_tab5 : rtab .any (opsOf Try.f3 5) = certChecks_T5 := by kernel_rfl
theorem certChecks_bits5 : waitsOk certChecks_T5.2 certChecks_B5 = true := by kernel_rfl
def certChecks_T11 : Bool × List (List Nat × List Nat) := (true, [([], []), ([0], [0]), ([], []), ([], []), ([3], [3]), ([], []), ([], []), ([6], [6]), ([], []), ([7, 8], [7, 8]), ([9], [9]), ([], []), ([11], [11]), ([], []), ([12, 13], [12, 13]), ([14], [14]), ([1, 2, 0, 1, 2, 6, 7, 8, 9, 10, 15], [1, 2]), ([16, 10, 0, 1, 2, 6, 7, 8, 9, 10, 15], [10, 16]), ([4, 5, 0, 1, 2, 3, 4, 5, 6, 7, 8, 9, 10, 11, 12, 13, 14, 15, 16, 17], [4, 5]), ([18, 15, 17, 0, 1, 2, 3, 4, 5, 6, 7, 8, 9, 10, 11, 12, 13, 14, 15, 16, 17], [15, 18])])
def certChecks_B11 : List Nat := [0, 1, 0, 0, 8, 0, 0, 64, 0, 448, 960, 0, 2048, 0, 14336, 30720, 65479, 131015, 262143, 524287]
theorem certChecks_tab11 : rtab .any (opsOf Try.f3 11) = certChecks_T11 := by kernel_rfl
theorem certChecks_bits11 : waitsOk certChecks_T11.2 certChecks_B11 = true := by kernel_rfl
def certChecks_T12 : Bool × List (List Nat × List Nat) := (true, [([], []), ([0], [0]), ([], []), ([], []), ([3], [3]), ([2, 4], [2, 4]), ([], []), ([6], [6]), ([1, 5, 7], [1, 5, 7]), ([], []), ([9, 8, 5, 0, 1, 2, 3, 4, 5, 6, 7, 8, 9], [8, 9])])
def certChecks_B12 : List Nat := [0, 1, 0, 0, 8, 28, 0, 64, 255, 0, 1023]
theorem certChecks_tab12 : rtab .any (opsOf Try.f3 12) = certChecks_T12 := by kernel_rfl
theorem certChecks_bits12 : waitsOk certChecks_T12.2 certChecks_B12 = true := by kernel_rfl
def certChecks_T13 : Bool × List (List Nat × List Nat) := (true, [([], []), ([], []), ([0, 1], [0, 1]), ([], []), ([], []), ([3, 4, 2], [3, 4]), ([2, 5], [2, 5]), ([6, 5], [6]), ([7, 7], [7]), ([7, 8], [7, 8]), ([9, 8, 0, 1, 2, 3, 4, 5, 6, 7, 8, 9], [9])])
def certChecks_B13 : List Nat := [0, 0, 3, 0, 0, 31, 63, 127, 255, 511, 1023]
theorem certChecks_tab13 : rtab .any (opsOf Try.f3 13) = certChecks_T13 := by kernel_rfl
theorem certChecks_bits13 : waitsOk certChecks_T13.2 certChecks_B13 = true := by kernel_rfl
theorem ints_put {w : World} {base go co : Nat} {l : List Int} (h : MInts w base go co l) (j : Nat) (hj : j < l.length) (x : Int) : MInts (w.setCell ⟨go, j, none⟩ (.int .i64 x)) base go co (l.set j x) := by
 obtain ⟨⟨y, h1, h2, h3⟩, h4⟩ := h
 have h5 := (Kd.R_putg h1 (j : Int) x).1
 rw [Int.toNat_natCast] at h5
 refine ⟨⟨y.set j x, by rw [List.length_set]; exact h5, by rw [List.length_set, List.take_set, h2], by rw [List.length_set, List.getElem?_set_ne (by omega)]; exact h3⟩, h4⟩
theorem ints_cell {w : World} {base go co : Nat} {l : List Int} (h : MInts w base go co l) (j : Nat) (hj : j < l.length) : w.cell? ⟨go, j, none⟩ = some (.int .i64 (rd l j)) ∧ w.frozen? ⟨go, j, none⟩ = false := by
 obtain ⟨⟨y, h1, h2, h3⟩, h4⟩ := h
 have h5 := (List.getElem?_eq_some_iff.1 h3).1
 obtain ⟨h6, h7⟩ := Kd.R_celln 0 h1 (j : Int) (by omega) (by omega)
 rw [Int.toNat_natCast] at h6 h7
 refine ⟨?_, h7⟩
 have e : rdOf 0 y (j : Int) = rd l j := by
  have : l[j]? = y[j]? := by rw [← h2, List.getElem?_take]; simp [hj]
  simp [rdOf, rd, List.getD, this]
 rw [← e]
 exact h6
theorem edges_step {w w' : World} {base go co : Nat} {l : List S69} (h : MEdges w base go co l) (hk : w'.heap[go]? = w.heap[go]?) : MEdges w' base go co l := by
 obtain ⟨⟨y, h1, h2, h3⟩, h4⟩ := h
 refine ⟨⟨y, ?_, h2, h3⟩, h4⟩
 have h5 : Kd.R k69 69 w base (fun k => k = go) (.slice (some ⟨go, 0, none⟩) y.length co) y := ⟨fun k hk => by simpa [Value.ownBlock, eq_comm] using hk, h1.2.imp_ (fun _ _ hp => hp)⟩
 have h6 := Kd.R_move h5 (fun k hq => by subst hq; exact hk)
 exact ⟨fun _ _ => trivial, h6.2.imp_ (fun _ _ hp => hp)⟩
theorem pairs_step {w w' : World} {base go co : Nat} {l : List S50} (h : MPairs w base go co l) (hk : w'.heap[go]? = w.heap[go]?) : MPairs w' base go co l := by
 obtain ⟨⟨y, h1, h2, h3⟩, h4⟩ := h
 refine ⟨⟨y, ?_, h2, h3⟩, h4⟩
 have h5 : Kd.R k50 50 w base (fun k => k = go) (.slice (some ⟨go, 0, none⟩) y.length co) y := ⟨fun k hk => by simpa [Value.ownBlock, eq_comm] using hk, h1.2.imp_ (fun _ _ hp => hp)⟩
 have h6 := Kd.R_move h5 (fun k hq => by subst hq; exact hk)
 exact ⟨fun _ _ => trivial, h6.2.imp_ (fun _ _ hp => hp)⟩
theorem ints_step {w w' : World} {base go co : Nat} {l : List Int} (h : MInts w base go co l) (hk : w'.heap[go]? = w.heap[go]?) : MInts w' base go co l := by
 obtain ⟨⟨y, h1, h2, h3⟩, h4⟩ := h
 refine ⟨⟨y, ?_, h2, h3⟩, h4⟩
 have h5 : Kd.R (Kd.int .i64) 3 w base (fun k => k = go) (.slice (some ⟨go, 0, none⟩) y.length co) y := ⟨fun k hk => by simpa [Value.ownBlock, eq_comm] using hk, h1.2.imp_ (fun _ _ hp => hp)⟩
 have h6 := Kd.R_move h5 (fun k hq => by subst hq; exact hk)
 exact ⟨fun _ _ => trivial, h6.2.imp_ (fun _ _ hp => hp)⟩
theorem own_step {w w' : World} {base : Nat} {v : Value} {xs : List Int} (h : Kd.R (Kd.int .i64) 3 w base (fun _ => True) v xs) (hk : ∀ k, v.ownBlock = some k → w'.heap[k]? = w.heap[k]?) : Kd.R (Kd.int .i64) 3 w' base (fun _ => True) v xs := by
 have h5 : Kd.R (Kd.int .i64) 3 w base (fun k => v.ownBlock = some k) v xs := ⟨fun k hk => hk, h.2.imp_ (fun _ _ hp => hp)⟩
 have h6 := Kd.R_move h5 hk
 exact ⟨fun _ _ => trivial, h6.2.imp_ (fun _ _ hp => hp)⟩
theorem set3 {w : World} {g : Nat} {t : TypeId} {y0 y1 y2 : Value} (h : w.heap[g]? = some (.cells #[y0, y1, y2] t (0, 0))) (x0 x1 x2 : Value) : (((w.setCell ⟨g, 0, none⟩ x0).setCell ⟨g, 1, none⟩ x1).setCell ⟨g, 2, none⟩ x2).heap[g]? = some (.cells #[x0, x1, x2] t (0, 0)) := blk_put (blk_put (blk_put h 0 x0 rfl) 1 x1 rfl) 2 x2 rfl
theorem set3_far (w : World) (g : Nat) (x0 x1 x2 : Value) (k : Nat) (hk : k ≠ g) : (((w.setCell ⟨g, 0, none⟩ x0).setCell ⟨g, 1, none⟩ x1).setCell ⟨g, 2, none⟩ x2).heap[k]? = w.heap[k]? := (Below.heap_setCell _ _ _ k hk).trans ((Below.heap_setCell _ _ _ k hk).trans (Below.heap_setCell _ _ _ k hk))
def I64 (l : List Int) : Prop := ∀ p ∈ l, p ≤ 9223372036854775807
theorem i64_set {l : List Int} (h : I64 l) (i : Nat) {x : Int} (hx : x ≤ 9223372036854775807) : I64 (l.set i x) := fun p hp => by
 rcases List.mem_or_eq_of_mem_set hp with q | q
 ·exact h p q
 ·omega
theorem i64_rd {l : List Int} (h : I64 l) (i : Nat) (hi : i < l.length) : rd l i ≤ 9223372036854775807 := h _ (rd_mem l (i : Int) (by omega) (by omega))
set_option maxHeartbeats 8000000 in
set_option maxRecDepth 100000 in
theorem certChecks_walk (R C : Int) (A0 : Option Addr) (c0 : Nat) (es : List S69) (A1 : Option Addr) (c1 : Nat) (ps : List S50) (A2 : Option Addr) (c2 : Nat) (ys : List Int) (A3 : Option Addr) (c3 : Nat) (zs : List Int) (w : World)
  (hr0 : Kd.C k69 w A0 es.length es) (hc0 : es.length ≤ c0) (hl0 : es.length ≤ 140737488351232) (hr1 : Kd.C k50 w A1 ps.length ps) (hc1 : ps.length ≤ c1) (hl1 : ps.length ≤ 140737488351232) (hr2 : Kd.C (Kd.int .i64) w A2 ys.length ys) (hc2 : ys.length ≤ c2) (hl2 : ys.length ≤ 140737488351232) (hr3 : Kd.C (Kd.int .i64) w A3 zs.length zs) (hc3 : zs.length ≤ c3) (hl3 : zs.length ≤ 140737488351232) (hyb : ∀ p ∈ ys, p ≤ 9223372036854775807) :
  Calls Try.prog 3 #[.agg #[.int .i64 R, .int .i64 C, .slice A0 es.length c0], .agg #[.slice A1 ps.length c1, .slice A2 ys.length c2, .slice A3 zs.length c3]] w fun e w' => e = .returned (.bool true) ∧ Below w.heap.size w w' := by
 have HR0 := Aside0.mk hr0
 have HC0 := Aside0.mk hc0
 have HR1 := Aside0.mk hr1
 have HC1 := Aside0.mk hc1
 have HR2 := Aside0.mk hr2
 have HC2 := Aside0.mk hc2
 have HR3 := Aside0.mk hr3
 have HC3 := Aside0.mk hc3
 have HYB : Aside0 (I64 ys) := ⟨hyb⟩
 obtain ⟨bb, hbb, hsum⟩ := beyond_is [(es.length : Int), (ps.length : Int), (ys.length : Int), (zs.length : Int)] (by intro x hx; simp at hx; omega) (by simp)
 have HBB := Aside0.mk hbb
 clear hr0 hc0 hr1 hc1 hr2 hc2 hr3 hc3 hbb hyb
 go_enter Try.func3, Try.ntmps3
 go_wp2_with fail
 refine (cabstandlaw01_Beyond.calls _ (some ⟨w.heap.size + 1 + 1, 0, none⟩) 4 [(es.length : Int), (ps.length : Int), (ys.length : Int), (zs.length : Int)] bb _ (ints_at (at2 w _ _ _) (by simp)) (by simp) HBB.out).mono ?_
 rintro e w1 ⟨rfl, hd⟩
 have HB1 : Aside0 (Below w.heap.size w w1) := ⟨by obtain ⟨n, rfl⟩ := hd; exact pw_below_drewN (below_alloc (below_alloc (below_alloc (Below.refl _ _) _) _) _) _⟩
 have hk : w1.heap[w.heap.size]? = some (.cells #[.int .i64 R, .int .i64 C, .slice A0 es.length c0] 24 (0, 0)) := by obtain ⟨n, rfl⟩ := hd; exact blk_alloc (blk_alloc (blk_new w _) _) _
 have KG1 := Aside0.mk hk
 have hk2 : w1.heap[w.heap.size + 1]? = some (.cells #[.slice A1 ps.length c1, .slice A2 ys.length c2, .slice A3 zs.length c3] 28 (0, 0)) := by obtain ⟨n, rfl⟩ := hd; exact blk_alloc (at1 w _ _) _
 have KC1 := Aside0.mk hk2
 clear hd hk hk2
 cases bb with
 | true =>
  go_wp2
  go_ret
  exact ⟨rfl, HB1.out⟩
 | false =>
  have HS0 : Aside0 (es.length ≤ 1048576) := ⟨by have h := hsum rfl; simp at h; omega⟩
  have HS1 : Aside0 (ps.length ≤ 1048576) := ⟨by have h := hsum rfl; simp at h; omega⟩
  have HS2 : Aside0 (ys.length ≤ 1048576) := ⟨by have h := hsum rfl; simp at h; omega⟩
  have HS3 : Aside0 (zs.length ≤ 1048576) := ⟨by have h := hsum rfl; simp at h; omega⟩
  clear hsum HBB
  have KGc0 : w1.cell? ⟨w.heap.size, 0, none⟩ = some (.int .i64 R) := (blk_cell KG1.out 0).trans rfl
  have KGc1 : w1.cell? ⟨w.heap.size, 1, none⟩ = some (.int .i64 C) := (blk_cell KG1.out 1).trans rfl
  have KGc2 : w1.cell? ⟨w.heap.size, 2, none⟩ = some (.slice A0 es.length c0) := (blk_cell KG1.out 2).trans rfl
  go_wp2_with fail
  refine (twinGraph_calls R C A0 c0 es w1 (Kd.C_below HR0.out HB1.out) HC0.out HS0.out).mono ?_
  rintro e w2 ⟨go, co, rfl, hm, hb⟩
  clear KGc0 KGc1 KGc2
  have HME2 : Aside0 (MEdges w2 w.heap.size go co es) := ⟨hm.lower HB1.out.size⟩
  have HGO : Aside0 (w1.heap.size ≤ go ∧ go < w2.heap.size) := ⟨hm.ge, hm.blk⟩
  have HGK : Aside0 (w.heap.size + 1 < w1.heap.size) := ⟨blk_lt KC1.out⟩
  have HS12 : Aside0 (w1.heap.size ≤ w2.heap.size) := ⟨hb.size⟩
  clear hm
  have HB2 := Aside0.mk (below_step HB1.out hb)
  have KG2 := Aside0.mk ((hb.block _ (blk_lt KG1.out)).trans KG1.out)
  have KC2 := Aside0.mk ((hb.block _ (blk_lt KC1.out)).trans KC1.out)
  clear HB1 KG1 KC1 hb
  have KCc0 : w2.cell? ⟨w.heap.size + 1, 0, none⟩ = some (.slice A1 ps.length c1) := (blk_cell KC2.out 0).trans rfl
  have KCc1 : w2.cell? ⟨w.heap.size + 1, 1, none⟩ = some (.slice A2 ys.length c2) := (blk_cell KC2.out 1).trans rfl
  have KCc2 : w2.cell? ⟨w.heap.size + 1, 2, none⟩ = some (.slice A3 zs.length c3) := (blk_cell KC2.out 2).trans rfl
  have hlc : w.heap.size + 1 < w2.heap.size := blk_lt KC2.out
  go_wp2_with fail
  have hba : Below w2.heap.size w2 (w2.alloc (.cells #[.int .i64 R, .int .i64 C, .slice (some ⟨go, 0, none⟩) es.length co] 24)) := below_new _ _
  have KIA : Aside0 ((w2.alloc (.cells #[.int .i64 R, .int .i64 C, .slice (some ⟨go, 0, none⟩) es.length co] 24)).heap[w2.heap.size]? = some (.cells #[.int .i64 R, .int .i64 C, .slice (some ⟨go, 0, none⟩) es.length co] 24 (0, 0))) := ⟨blk_new _ _⟩
  clear hlc
  clear KCc0 KCc1 KCc2
  have HBA := Aside0.mk (below_step HB2.out hba)
  have KGA := Aside0.mk ((hba.block _ (blk_lt KG2.out)).trans KG2.out)
  have KCA := Aside0.mk ((hba.block _ (blk_lt KC2.out)).trans KC2.out)
  have HMEA := Aside0.mk (HME2.out.below hba)
  clear HB2 KG2 KC2 HME2 hba
  refine (twinCert_calls ps ys zs A1 A2 A3 c1 c2 c3 _ (Kd.C_below HR1.out HBA.out) HC1.out (Kd.C_below HR2.out HBA.out) HC2.out (Kd.C_below HR3.out HBA.out) HC3.out HS1.out HS2.out HS3.out).mono ?_
  rintro e w3 ⟨gP, cP, gY, cY, gZ, cZ, rfl, hmp, hmy, hmz, hne, hb⟩
  have HMP3 : Aside0 (MPairs w3 w.heap.size gP cP ps) := ⟨hmp.lower HBA.out.size⟩
  have HMY3 : Aside0 (MInts w3 w.heap.size gY cY ys) := ⟨hmy.lower HBA.out.size⟩
  have HMZ3 : Aside0 (MInts w3 w.heap.size gZ cZ zs) := ⟨hmz.lower HBA.out.size⟩
  have HGY : Aside0 (w2.heap.size + 1 ≤ gY ∧ gY < w3.heap.size) := ⟨by have h := hmy.ge; rw [World.size_alloc] at h; exact h, hmy.blk⟩
  have HNE : Aside0 (gP ≠ gY ∧ gP ≠ gZ ∧ gY ≠ gZ) := ⟨hne⟩
  clear hmp hmy hmz hne
  have HB3 := Aside0.mk (below_step HBA.out hb)
  have KG3 := Aside0.mk ((hb.block _ (blk_lt KGA.out)).trans KGA.out)
  have KC3 := Aside0.mk ((hb.block _ (blk_lt KCA.out)).trans KCA.out)
  have HME3 := Aside0.mk (HMEA.out.below hb)
  have KI3 := Aside0.mk ((hb.block _ (blk_lt KIA.out)).trans KIA.out)
  clear HBA KGA KCA HMEA KIA hb
  have KIc0 : w3.cell? ⟨w2.heap.size, 0, none⟩ = some (.int .i64 R) := (blk_cell KI3.out 0).trans rfl
  have KIc1 : w3.cell? ⟨w2.heap.size, 1, none⟩ = some (.int .i64 C) := (blk_cell KI3.out 1).trans rfl
  have KIc2 : w3.cell? ⟨w2.heap.size, 2, none⟩ = some (.slice (some ⟨go, 0, none⟩) es.length co) := (blk_cell KI3.out 2).trans rfl
  have KCc0 : w3.cell? ⟨w.heap.size + 1, 0, none⟩ = some (.slice A1 ps.length c1) := (blk_cell KC3.out 0).trans rfl
  have KCc1 : w3.cell? ⟨w.heap.size + 1, 1, none⟩ = some (.slice A2 ys.length c2) := (blk_cell KC3.out 1).trans rfl
  have KCc2 : w3.cell? ⟨w.heap.size + 1, 2, none⟩ = some (.slice A3 zs.length c3) := (blk_cell KC3.out 2).trans rfl
  have KGc0 : w3.cell? ⟨w.heap.size, 0, none⟩ = some (.int .i64 R) := (blk_cell KG3.out 0).trans rfl
  have KGc1 : w3.cell? ⟨w.heap.size, 1, none⟩ = some (.int .i64 C) := (blk_cell KG3.out 1).trans rfl
  have KGc2 : w3.cell? ⟨w.heap.size, 2, none⟩ = some (.slice A0 es.length c0) := (blk_cell KG3.out 2).trans rfl
  go_wp2_with fail
  clear KIc0 KIc1 KIc2 KCc0 KCc1 KCc2 KGc0 KGc1 KGc2
  have hbx : Below w3.heap.size w3 (w3.alloc (.cells #[.slice (some ⟨gP, 0, none⟩) ps.length cP, .slice (some ⟨gY, 0, none⟩) ys.length cY, .slice (some ⟨gZ, 0, none⟩) zs.length cZ] 28)).drew := below_drew1 (below_new w3 _)
  have KX4 : Aside0 ((w3.alloc (.cells #[.slice (some ⟨gP, 0, none⟩) ps.length cP, .slice (some ⟨gY, 0, none⟩) ys.length cY, .slice (some ⟨gZ, 0, none⟩) zs.length cZ] 28)).drew.heap[w3.heap.size]? = some (.cells #[.slice (some ⟨gP, 0, none⟩) ps.length cP, .slice (some ⟨gY, 0, none⟩) ys.length cY, .slice (some ⟨gZ, 0, none⟩) zs.length cZ] 28 (0, 0))) := ⟨blk_drew (blk_new w3 _)⟩
  have HB4 := Aside0.mk (below_step HB3.out hbx)
  have KG4 := Aside0.mk ((hbx.block _ (blk_lt KG3.out)).trans KG3.out)
  have KC4 := Aside0.mk ((hbx.block _ (blk_lt KC3.out)).trans KC3.out)
  have HME4 := Aside0.mk (HME3.out.below hbx)
  have KI4 := Aside0.mk ((hbx.block _ (blk_lt KI3.out)).trans KI3.out)
  have HMP4 := Aside0.mk (HMP3.out.below hbx)
  have HMY4 := Aside0.mk (HMY3.out.below hbx)
  have HMZ4 := Aside0.mk (HMZ3.out.below hbx)
  clear HB3 KG3 KC3 HME3 KI3 HMP3 HMY3 HMZ3 hbx
  refine start_ (n := 19) (S := fun w' => w'.cell? ⟨w.heap.size, 0, none⟩ = some (.int .i64 R) ∧ w'.cell? ⟨w.heap.size, 1, none⟩ = some (.int .i64 C) ∧ w'.cell? ⟨w.heap.size, 2, none⟩ = some (.slice A0 es.length c0) ∧ w'.cell? ⟨w.heap.size + 1, 0, none⟩ = some (.slice A1 ps.length c1) ∧ w'.cell? ⟨w.heap.size + 1, 1, none⟩ = some (.slice A2 ys.length c2) ∧ w'.cell? ⟨w.heap.size + 1, 2, none⟩ = some (.slice A3 zs.length c3) ∧ w'.cell? ⟨w2.heap.size, 0, none⟩ = some (.int .i64 R) ∧ w'.cell? ⟨w2.heap.size, 1, none⟩ = some (.int .i64 C) ∧ w'.cell? ⟨w2.heap.size, 2, none⟩ = some (.slice (some ⟨go, 0, none⟩) es.length co) ∧ w'.cell? ⟨w3.heap.size, 0, none⟩ = some (.slice (some ⟨gP, 0, none⟩) ps.length cP) ∧ w'.cell? ⟨w3.heap.size, 1, none⟩ = some (.slice (some ⟨gY, 0, none⟩) ys.length cY) ∧ w'.cell? ⟨w3.heap.size, 2, none⟩ = some (.slice (some ⟨gZ, 0, none⟩) zs.length cZ)) (ds := []) #[false, false, false, false, false, false, false, false, false, false, false, false, false, false, false, false, false, false, false] (by kernel_rfl) rfl rfl ⟨(blk_cell KG4.out 0).trans rfl, (blk_cell KG4.out 1).trans rfl, (blk_cell KG4.out 2).trans rfl, (blk_cell KC4.out 0).trans rfl, (blk_cell KC4.out 1).trans rfl, (blk_cell KC4.out 2).trans rfl, (blk_cell KI4.out 0).trans rfl, (blk_cell KI4.out 1).trans rfl, (blk_cell KI4.out 2).trans rfl, (blk_cell KX4.out 0).trans rfl, (blk_cell KX4.out 1).trans rfl, (blk_cell KX4.out 2).trans rfl⟩ (fun hHeld => ?_)
  refine with_tabW certChecks_tab5 certChecks_bits5 (fun HT_ HW_ => ?_)
  generalize (w3.alloc (.cells #[.slice (some ⟨gP, 0, none⟩) ps.length cP, .slice (some ⟨gY, 0, none⟩) ys.length cY, .slice (some ⟨gZ, 0, none⟩) zs.length cZ] 28)).drew = w4 at HB4 KG4 KC4 HME4 KI4 HMP4 HMY4 HMZ4 KX4 hHeld ⊢
  obtain ⟨kf, r, hf1, hf2⟩ := certs_alike R C es ps ys zs HYB.out HS0.out HS1.out HS2.out HS3.out
  have HF1 := Aside0.mk hf1
  have HF2 := Aside0.mk hf2
  clear hf1 hf2
  refine take_ (i := 0) (N := some 28) (v := ?_) (a' := ?_) #[true, false, false, false, false, false, false, false, false, false, false, false, false, false, false, false, false, false, false] rfl rfl (take_ofW HT_.out HW_.out (by kernel_rfl)) (fun _ _ _ h => h) (Or.inl ⟨by rfl, ?_⟩) hHeld ?_ ?_
  rotate_left
  ·rintro w' ⟨s0, s1, s2, s3, s4, s5, s6, s7, s8, s9, s10, s11⟩
   go_simp
   with_reducible rfl
  rotate_left
  ·simp only [Act.put, List.setIfInBounds_toArray, List.set_cons_zero, List.set_cons_succ, i64_w, i32_w]
   rfl
  refine take_ (i := 1) (N := some 29) (v := ?_) (a' := ?_) #[true, true, false, false, false, false, false, false, false, false, false, false, false, false, false, false, false, false, false] rfl rfl (take_ofW HT_.out HW_.out (by kernel_rfl)) (fun _ _ _ h => h) (Or.inl ⟨by rfl, ?_⟩) hHeld ?_ ?_
  rotate_left
  ·rintro w' ⟨s0, s1, s2, s3, s4, s5, s6, s7, s8, s9, s10, s11⟩
   go_simp
   with_reducible rfl
  rotate_left
  ·simp only [Act.put, List.setIfInBounds_toArray, List.set_cons_zero, List.set_cons_succ, i64_w, i32_w]
   rfl
  refine take_ (i := 3) (N := some 31) (v := ?_) (a' := ?_) #[true, true, false, true, false, false, false, false, false, false, false, false, false, false, false, false, false, false, false] rfl rfl (take_ofW HT_.out HW_.out (by kernel_rfl)) (fun _ _ _ h => h) (Or.inl ⟨by rfl, ?_⟩) hHeld ?_ ?_
  rotate_left
  ·rintro w' ⟨s0, s1, s2, s3, s4, s5, s6, s7, s8, s9, s10, s11⟩
   go_simp
   with_reducible rfl
  rotate_left
  ·simp only [Act.put, List.setIfInBounds_toArray, List.set_cons_zero, List.set_cons_succ, i64_w, i32_w]
   rfl
  refine take_ (i := 4) (N := some 32) (v := ?_) (a' := ?_) #[true, true, false, true, true, false, false, false, false, false, false, false, false, false, false, false, false, false, false] rfl rfl (take_ofW HT_.out HW_.out (by kernel_rfl)) (fun _ _ _ h => h) (Or.inl ⟨by rfl, ?_⟩) hHeld ?_ ?_
  rotate_left
  ·rintro w' ⟨s0, s1, s2, s3, s4, s5, s6, s7, s8, s9, s10, s11⟩
   go_simp
   with_reducible rfl
  rotate_left
  ·simp only [Act.put, List.setIfInBounds_toArray, List.set_cons_zero, List.set_cons_succ, i64_w, i32_w]
   rfl
  refine one_ (i := 2) (N := some 30) #[true, true, true, true, true, false, false, false, false, false, false, false, false, false, false, false, false, false, false] rfl rfl (one_of HT_.out (by kernel_rfl)) (by decide) (fun K hK => ?_)
  refine goes_ Try.func13 (by kernel_rfl) rfl #[.agg #[.int .i64 R, .int .i64 C, .slice (some ⟨go, 0, none⟩) es.length co], .agg #[.slice (some ⟨gP, 0, none⟩) ps.length cP, .slice (some ⟨gY, 0, none⟩) ys.length cY, .slice (some ⟨gZ, 0, none⟩) zs.length cZ]] (by rfl) rfl rfl (by (try simp only [List.map_toArray, List.map_cons, List.map_nil]); first | done | rfl) ?_
  refine (cert_Check.calls R C (some ⟨go, 0, none⟩) co es (some ⟨gP, 0, none⟩) cP ps (some ⟨gY, 0, none⟩) cY ys (some ⟨gZ, 0, none⟩) cZ zs r w4 HME4.out.reads (Nat.le_of_lt HME4.out.lt) HMP4.out.reads (Nat.le_of_lt HMP4.out.lt) HMY4.out.reads (Nat.le_of_lt HMY4.out.lt) HMZ4.out.reads (Nat.le_of_lt HMZ4.out.lt) HF1.out).mono ?_
  rintro e w5 ⟨rfl, hb⟩
  refine ⟨_, rfl, ?_⟩
  have HB5 := Aside0.mk (below_step HB4.out hb)
  have KG5 := Aside0.mk ((hb.block _ (blk_lt KG4.out)).trans KG4.out)
  have KC5 := Aside0.mk ((hb.block _ (blk_lt KC4.out)).trans KC4.out)
  have HME5 := Aside0.mk (HME4.out.below hb)
  have KI5 := Aside0.mk ((hb.block _ (blk_lt KI4.out)).trans KI4.out)
  have HMP5 := Aside0.mk (HMP4.out.below hb)
  have HMY5 := Aside0.mk (HMY4.out.below hb)
  have HMZ5 := Aside0.mk (HMZ4.out.below hb)
  have KX5 := Aside0.mk ((hb.block _ (blk_lt KX4.out)).trans KX4.out)
  clear HB4 KG4 KC4 HME4 KI4 HMP4 HMY4 HMZ4 KX4 hb
  refine hK.out _ _ ⟨(blk_cell KG5.out 0).trans rfl, (blk_cell KG5.out 1).trans rfl, (blk_cell KG5.out 2).trans rfl, (blk_cell KC5.out 0).trans rfl, (blk_cell KC5.out 1).trans rfl, (blk_cell KC5.out 2).trans rfl, (blk_cell KI5.out 0).trans rfl, (blk_cell KI5.out 1).trans rfl, (blk_cell KI5.out 2).trans rfl, (blk_cell KX5.out 0).trans rfl, (blk_cell KX5.out 1).trans rfl, (blk_cell KX5.out 2).trans rfl⟩ (fun hHeld => ?_)
  clear hK K
  refine norm_ (a' := ?_) ?_ ?_
  rotate_left
  ·show Act.put _ (some 30) _ = _
   simp only [Act.put, List.setIfInBounds_toArray, List.set_cons_zero, List.set_cons_succ, i64_w, i32_w]
   rfl
  refine one_ (i := 5) (N := some 33) #[true, true, true, true, true, true, false, false, false, false, false, false, false, false, false, false, false, false, false] rfl rfl (one_of HT_.out (by kernel_rfl)) (by decide) (fun K hK => ?_)
  refine goes_ Try.func14 (by kernel_rfl) rfl #[.agg #[.int .i64 R, .int .i64 C, .slice A0 es.length c0], .agg #[.slice A1 ps.length c1, .slice A2 ys.length c2, .slice A3 zs.length c3]] (by rfl) rfl rfl (by (try simp only [List.map_toArray, List.map_cons, List.map_nil]); first | done | rfl) ?_
  refine (cabstandref18_Check.calls kf R C A0 c0 es A1 c1 ps A2 c2 ys A3 c3 zs r w5 (Kd.C_below HR0.out HB5.out) HC0.out (Kd.C_below HR1.out HB5.out) HC1.out (Kd.C_below HR2.out HB5.out) HC2.out (Kd.C_below HR3.out HB5.out) HC3.out HF2.out).mono ?_
  rintro e w6 ⟨rfl, hb⟩
  refine ⟨_, rfl, ?_⟩
  have HB6 := Aside0.mk (below_step HB5.out hb)
  have KG6 := Aside0.mk ((hb.block _ (blk_lt KG5.out)).trans KG5.out)
  have KC6 := Aside0.mk ((hb.block _ (blk_lt KC5.out)).trans KC5.out)
  have HME6 := Aside0.mk (HME5.out.below hb)
  have KI6 := Aside0.mk ((hb.block _ (blk_lt KI5.out)).trans KI5.out)
  have HMP6 := Aside0.mk (HMP5.out.below hb)
  have HMY6 := Aside0.mk (HMY5.out.below hb)
  have HMZ6 := Aside0.mk (HMZ5.out.below hb)
  have KX6 := Aside0.mk ((hb.block _ (blk_lt KX5.out)).trans KX5.out)
  clear HB5 KG5 KC5 HME5 KI5 HMP5 HMY5 HMZ5 KX5 hb
  refine hK.out _ _ ⟨(blk_cell KG6.out 0).trans rfl, (blk_cell KG6.out 1).trans rfl, (blk_cell KG6.out 2).trans rfl, (blk_cell KC6.out 0).trans rfl, (blk_cell KC6.out 1).trans rfl, (blk_cell KC6.out 2).trans rfl, (blk_cell KI6.out 0).trans rfl, (blk_cell KI6.out 1).trans rfl, (blk_cell KI6.out 2).trans rfl, (blk_cell KX6.out 0).trans rfl, (blk_cell KX6.out 1).trans rfl, (blk_cell KX6.out 2).trans rfl⟩ (fun hHeld => ?_)
  clear hK K
  refine norm_ (a' := ?_) ?_ ?_
  rotate_left
  ·show Act.put _ (some 33) _ = _
   simp only [Act.put, List.setIfInBounds_toArray, List.set_cons_zero, List.set_cons_succ, i64_w, i32_w]
   rfl
  refine pure_ (i := 6) (N := some 34) (v := ?_) (a' := ?_) #[true, true, true, true, true, true, true, false, false, false, false, false, false, false, false, false, false, false, false] rfl rfl (any_of HT_.out (by kernel_rfl)) (fun _ _ _ h => h) (Or.inl ⟨by rfl, ?_⟩) ?_ ?_
  rotate_left
  ·intro w'
   go_simp
   with_reducible rfl
  rotate_left
  ·simp only [Act.put, List.setIfInBounds_toArray, List.set_cons_zero, List.set_cons_succ, i64_w, i32_w]
   rfl
  refine pure_ (i := 7) (N := some 35) (v := ?_) (a' := ?_) #[true, true, true, true, true, true, true, true, false, false, false, false, false, false, false, false, false, false, false] rfl rfl (any_of HT_.out (by kernel_rfl)) (fun _ _ _ h => h) (Or.inl ⟨by rfl, ?_⟩) ?_ ?_
  rotate_left
  ·intro w'
   go_simp
   with_reducible rfl
  rotate_left
  ·simp only [Act.put, List.setIfInBounds_toArray, List.set_cons_zero, List.set_cons_succ, i64_w, i32_w]
   rfl
  refine take_ (i := 8) (N := some 36) (v := ?_) (a' := ?_) #[true, true, true, true, true, true, true, true, true, false, false, false, false, false, false, false, false, false, false] rfl rfl (take_ofW HT_.out HW_.out (by kernel_rfl)) (fun _ _ _ h => h) (Or.inl ⟨by rfl, ?_⟩) hHeld ?_ ?_
  rotate_left
  ·rintro w' ⟨s0, s1, s2, s3, s4, s5, s6, s7, s8, s9, s10, s11⟩
   go_simp
   with_reducible rfl
  rotate_left
  ·simp only [Act.put, List.setIfInBounds_toArray, List.set_cons_zero, List.set_cons_succ, i64_w, i32_w]
   rfl
  refine take_ (i := 9) (N := some 37) (v := ?_) (a' := ?_) #[true, true, true, true, true, true, true, true, true, true, false, false, false, false, false, false, false, false, false] rfl rfl (take_ofW HT_.out HW_.out (by kernel_rfl)) (fun _ _ _ h => h) (Or.inl ⟨by rfl, ?_⟩) hHeld ?_ ?_
  rotate_left
  ·rintro w' ⟨s0, s1, s2, s3, s4, s5, s6, s7, s8, s9, s10, s11⟩
   go_simp
   with_reducible rfl
  rotate_left
  ·simp only [Act.put, List.setIfInBounds_toArray, List.set_cons_zero, List.set_cons_succ, i64_w, i32_w]
   rfl
  refine one_ (i := 10) (N := some 38) #[true, true, true, true, true, true, true, true, true, true, true, false, false, false, false, false, false, false, false] rfl rfl (one_of HT_.out (by kernel_rfl)) (by decide) (fun K hK => ?_)
  refine goes_ Try.func15 (by kernel_rfl) rfl #[.agg #[.int .i64 R, .int .i64 C, .slice (some ⟨go, 0, none⟩) es.length co], .agg #[.int .i64 R, .int .i64 C, .slice A0 es.length c0]] (by rfl) rfl rfl (by (try simp only [List.map_toArray, List.map_cons, List.map_nil]); first | done | rfl) ?_
  refine (leftGraph_calls w.heap.size go co R C es A0 c0 w6 HME6.out (Kd.C_below HR0.out HB6.out) HC0.out HS0.out).mono ?_
  rintro e w7 ⟨rfl, hb⟩
  refine ⟨_, rfl, ?_⟩
  have HB7 := Aside0.mk (below_step HB6.out hb)
  have KG7 := Aside0.mk ((hb.block _ (blk_lt KG6.out)).trans KG6.out)
  have KC7 := Aside0.mk ((hb.block _ (blk_lt KC6.out)).trans KC6.out)
  have HME7 := Aside0.mk (HME6.out.below hb)
  have KI7 := Aside0.mk ((hb.block _ (blk_lt KI6.out)).trans KI6.out)
  have HMP7 := Aside0.mk (HMP6.out.below hb)
  have HMY7 := Aside0.mk (HMY6.out.below hb)
  have HMZ7 := Aside0.mk (HMZ6.out.below hb)
  have KX7 := Aside0.mk ((hb.block _ (blk_lt KX6.out)).trans KX6.out)
  clear HB6 KG6 KC6 HME6 KI6 HMP6 HMY6 HMZ6 KX6 hb
  refine hK.out _ _ ⟨(blk_cell KG7.out 0).trans rfl, (blk_cell KG7.out 1).trans rfl, (blk_cell KG7.out 2).trans rfl, (blk_cell KC7.out 0).trans rfl, (blk_cell KC7.out 1).trans rfl, (blk_cell KC7.out 2).trans rfl, (blk_cell KI7.out 0).trans rfl, (blk_cell KI7.out 1).trans rfl, (blk_cell KI7.out 2).trans rfl, (blk_cell KX7.out 0).trans rfl, (blk_cell KX7.out 1).trans rfl, (blk_cell KX7.out 2).trans rfl⟩ (fun hHeld => ?_)
  clear hK K
  refine norm_ (a' := ?_) ?_ ?_
  rotate_left
  ·show Act.put _ (some 38) _ = _
   simp only [Act.put, List.setIfInBounds_toArray, List.set_cons_zero, List.set_cons_succ, i64_w, i32_w]
   rfl
  refine pure_ (i := 11) (N := some 39) (v := ?_) (a' := ?_) #[true, true, true, true, true, true, true, true, true, true, true, true, false, false, false, false, false, false, false] rfl rfl (any_of HT_.out (by kernel_rfl)) (fun _ _ _ h => h) (Or.inl ⟨by rfl, ?_⟩) ?_ ?_
  rotate_left
  ·intro w'
   go_simp
   with_reducible rfl
  rotate_left
  ·simp only [Act.put, List.setIfInBounds_toArray, List.set_cons_zero, List.set_cons_succ, i64_w, i32_w]
   rfl
  refine pure_ (i := 12) (N := some 40) (v := ?_) (a' := ?_) #[true, true, true, true, true, true, true, true, true, true, true, true, true, false, false, false, false, false, false] rfl rfl (any_of HT_.out (by kernel_rfl)) (fun _ _ _ h => h) (Or.inl ⟨by rfl, ?_⟩) ?_ ?_
  rotate_left
  ·intro w'
   go_simp
   with_reducible rfl
  rotate_left
  ·simp only [Act.put, List.setIfInBounds_toArray, List.set_cons_zero, List.set_cons_succ, i64_w, i32_w]
   rfl
  refine pure_ (i := 13) (N := some 41) (v := ?_) (a' := ?_) #[true, true, true, true, true, true, true, true, true, true, true, true, true, true, false, false, false, false, false] rfl rfl (any_of HT_.out (by kernel_rfl)) (fun _ _ _ h => h) (Or.inl ⟨by rfl, ?_⟩) ?_ ?_
  rotate_left
  ·intro w'
   go_simp
   with_reducible rfl
  rotate_left
  ·simp only [Act.put, List.setIfInBounds_toArray, List.set_cons_zero, List.set_cons_succ, i64_w, i32_w]
   rfl
  refine take_ (i := 14) (N := some 42) (v := ?_) (a' := ?_) #[true, true, true, true, true, true, true, true, true, true, true, true, true, true, true, false, false, false, false] rfl rfl (take_ofW HT_.out HW_.out (by kernel_rfl)) (fun _ _ _ h => h) (Or.inl ⟨by rfl, ?_⟩) hHeld ?_ ?_
  rotate_left
  ·rintro w' ⟨s0, s1, s2, s3, s4, s5, s6, s7, s8, s9, s10, s11⟩
   go_simp
   with_reducible rfl
  rotate_left
  ·simp only [Act.put, List.setIfInBounds_toArray, List.set_cons_zero, List.set_cons_succ, i64_w, i32_w]
   rfl
  refine take_ (i := 15) (N := some 43) (v := ?_) (a' := ?_) #[true, true, true, true, true, true, true, true, true, true, true, true, true, true, true, true, false, false, false] rfl rfl (take_ofW HT_.out HW_.out (by kernel_rfl)) (fun _ _ _ h => h) (Or.inl ⟨by rfl, ?_⟩) hHeld ?_ ?_
  rotate_left
  ·rintro w' ⟨s0, s1, s2, s3, s4, s5, s6, s7, s8, s9, s10, s11⟩
   go_simp
   with_reducible rfl
  rotate_left
  ·simp only [Act.put, List.setIfInBounds_toArray, List.set_cons_zero, List.set_cons_succ, i64_w, i32_w]
   rfl
  refine one_ (i := 16) (N := some 44) #[true, true, true, true, true, true, true, true, true, true, true, true, true, true, true, true, true, false, false] rfl rfl (one_of HT_.out (by kernel_rfl)) (by decide) (fun K hK => ?_)
  refine goes_ Try.func16 (by kernel_rfl) rfl #[.agg #[.slice (some ⟨gP, 0, none⟩) ps.length cP, .slice (some ⟨gY, 0, none⟩) ys.length cY, .slice (some ⟨gZ, 0, none⟩) zs.length cZ], .agg #[.slice A1 ps.length c1, .slice A2 ys.length c2, .slice A3 zs.length c3]] (by rfl) rfl rfl (by (try simp only [List.map_toArray, List.map_cons, List.map_nil]); first | done | rfl) ?_
  refine (leftCert_calls w.heap.size gP cP gY cY gZ cZ ps ys zs A1 A2 A3 c1 c2 c3 w7 HMP7.out HMY7.out HMZ7.out (Kd.C_below HR1.out HB7.out) HC1.out (Kd.C_below HR2.out HB7.out) HC2.out (Kd.C_below HR3.out HB7.out) HC3.out HS1.out HS2.out HS3.out).mono ?_
  rintro e w8 ⟨rfl, hb⟩
  refine ⟨_, rfl, ?_⟩
  have HB8 := Aside0.mk (below_step HB7.out hb)
  have KG8 := Aside0.mk ((hb.block _ (blk_lt KG7.out)).trans KG7.out)
  have KC8 := Aside0.mk ((hb.block _ (blk_lt KC7.out)).trans KC7.out)
  have HME8 := Aside0.mk (HME7.out.below hb)
  have KI8 := Aside0.mk ((hb.block _ (blk_lt KI7.out)).trans KI7.out)
  have HMP8 := Aside0.mk (HMP7.out.below hb)
  have HMY8 := Aside0.mk (HMY7.out.below hb)
  have HMZ8 := Aside0.mk (HMZ7.out.below hb)
  have KX8 := Aside0.mk ((hb.block _ (blk_lt KX7.out)).trans KX7.out)
  clear HB7 KG7 KC7 HME7 KI7 HMP7 HMY7 HMZ7 KX7 hb
  refine hK.out _ _ ⟨(blk_cell KG8.out 0).trans rfl, (blk_cell KG8.out 1).trans rfl, (blk_cell KG8.out 2).trans rfl, (blk_cell KC8.out 0).trans rfl, (blk_cell KC8.out 1).trans rfl, (blk_cell KC8.out 2).trans rfl, (blk_cell KI8.out 0).trans rfl, (blk_cell KI8.out 1).trans rfl, (blk_cell KI8.out 2).trans rfl, (blk_cell KX8.out 0).trans rfl, (blk_cell KX8.out 1).trans rfl, (blk_cell KX8.out 2).trans rfl⟩ (fun hHeld => ?_)
  clear hK K
  refine norm_ (a' := ?_) ?_ ?_
  rotate_left
  ·show Act.put _ (some 44) _ = _
   simp only [Act.put, List.setIfInBounds_toArray, List.set_cons_zero, List.set_cons_succ, i64_w, i32_w]
   rfl
  refine pure_ (i := 17) (N := some 45) (v := ?_) (a' := ?_) #[true, true, true, true, true, true, true, true, true, true, true, true, true, true, true, true, true, true, false] rfl rfl (any_of HT_.out (by kernel_rfl)) (fun _ _ _ h => h) (Or.inl ⟨by rfl, ?_⟩) ?_ ?_
  rotate_left
  ·intro w'
   go_simp
   with_reducible rfl
  rotate_left
  ·simp only [Act.put, List.setIfInBounds_toArray, List.set_cons_zero, List.set_cons_succ, i64_w, i32_w]
   rfl
  refine pure_ (i := 18) (N := some 46) (v := ?_) (a' := ?_) #[true, true, true, true, true, true, true, true, true, true, true, true, true, true, true, true, true, true, true] rfl rfl (any_of HT_.out (by kernel_rfl)) (fun _ _ _ h => h) (Or.inl ⟨by rfl, ?_⟩) ?_ ?_
  rotate_left
  ·intro w'
   go_simp
   with_reducible rfl
  rotate_left
  ·simp only [Act.put, List.setIfInBounds_toArray, List.set_cons_zero, List.set_cons_succ, i64_w, i32_w]
   rfl
  refine done_ (done_of HT_.out (by kernel_rfl)) ?_
  clear HF1 HF2 hHeld HT_ HW_
  go_wp2
  go_loopg [7] (ys.length / 2) (fun kq v7 w' => ∃ (j : Nat) (L : List Int), v7 = .int .i64 j ∧ Aside0 (j + kq = ys.length / 2) ∧ Aside0 (L.length = ys.length ∧ I64 L) ∧ Aside0 (Below w.heap.size w w') ∧ Aside0 (w'.heap[w.heap.size]? = some (.cells #[.int .i64 R, .int .i64 C, .slice A0 es.length c0] 24 (0, 0))) ∧ Aside0 (w'.heap[w.heap.size + 1]? = some (.cells #[.slice A1 ps.length c1, .slice A2 ys.length c2, .slice A3 zs.length c3] 28 (0, 0))) ∧ Aside0 (MEdges w' w.heap.size go co es) ∧ Aside0 (w'.heap[w2.heap.size]? = some (.cells #[.int .i64 R, .int .i64 C, .slice (some ⟨go, 0, none⟩) es.length co] 24 (0, 0))) ∧ Aside0 (MPairs w' w.heap.size gP cP ps) ∧ Aside0 (MInts w' w.heap.size gY cY L) ∧ Aside0 (MInts w' w.heap.size gZ cZ zs) ∧ Aside0 (w'.heap[w3.heap.size]? = some (.cells #[.slice (some ⟨gP, 0, none⟩) ps.length cP, .slice (some ⟨gY, 0, none⟩) L.length cY, .slice (some ⟨gZ, 0, none⟩) zs.length cZ] 28 (0, 0))))
  case atStart => exact ⟨0, ys, rfl, ⟨by omega⟩, ⟨rfl, HYB.out⟩, HB8, KG8, KC8, HME8, KI8, HMP8, HMY8, HMZ8, KX8⟩
  case round =>
   clear HB8 KG8 KC8 HME8 KI8 HMP8 HMY8 HMZ8 KX8
   obtain ⟨j, L, rfl, HJ, HL, HBr, KGr, KCr, HMEr, KIr, HMPr, HMYr, HMZr, KXr⟩ := hrel
   have hdv : Int.tdiv (L.length : Int) 2 = ((ys.length / 2 : Nat) : Int) := by have hll := HL.out.1; rw [Int.tdiv_eq_ediv_of_nonneg (by omega)]; omega
   have hs2 : L.length ≤ 1048576 := by rw [HL.out.1]; exact HS2.out
   have KXc0 : wr.cell? ⟨w3.heap.size, 0, none⟩ = some (.slice (some ⟨gP, 0, none⟩) ps.length cP) := (blk_cell KXr.out 0).trans rfl
   have KXc1 : wr.cell? ⟨w3.heap.size, 1, none⟩ = some (.slice (some ⟨gY, 0, none⟩) L.length cY) := (blk_cell KXr.out 1).trans rfl
   have KXc2 : wr.cell? ⟨w3.heap.size, 2, none⟩ = some (.slice (some ⟨gZ, 0, none⟩) zs.length cZ) := (blk_cell KXr.out 2).trans rfl
   cases gk with
   | zero =>
    have hjl : ¬ (j : Int) < ((ys.length / 2 : Nat) : Int) := by have := HJ.out; omega
    have KCc0 : wr.cell? ⟨w.heap.size + 1, 0, none⟩ = some (.slice A1 ps.length c1) := (blk_cell KCr.out 0).trans rfl
    have KCc1 : wr.cell? ⟨w.heap.size + 1, 1, none⟩ = some (.slice A2 ys.length c2) := (blk_cell KCr.out 1).trans rfl
    have KCc2 : wr.cell? ⟨w.heap.size + 1, 2, none⟩ = some (.slice A3 zs.length c3) := (blk_cell KCr.out 2).trans rfl
    go_wp2_with fail
    clear KXc0 KXc1 KXc2 KCc0 KCc1 KCc2
    have hbd : Below wr.heap.size wr wr.drew := below_drew1 (Below.refl _ _)
    have HB9 := Aside0.mk (below_step HBr.out hbd)
    have KG9 := Aside0.mk ((hbd.block _ (blk_lt KGr.out)).trans KGr.out)
    have KC9 := Aside0.mk ((hbd.block _ (blk_lt KCr.out)).trans KCr.out)
    have HME9 := Aside0.mk (HMEr.out.below hbd)
    have KI9 := Aside0.mk ((hbd.block _ (blk_lt KIr.out)).trans KIr.out)
    have HMP9 := Aside0.mk (HMPr.out.below hbd)
    have HMY9 := Aside0.mk (HMYr.out.below hbd)
    have HMZ9 := Aside0.mk (HMZr.out.below hbd)
    have KX9 := Aside0.mk ((hbd.block _ (blk_lt KXr.out)).trans KXr.out)
    clear HBr KGr KCr HMEr KIr HMPr HMYr HMZr KXr hbd
    refine start_ (n := 11) (S := fun w' => w'.cell? ⟨w3.heap.size, 0, none⟩ = some (.slice (some ⟨gP, 0, none⟩) ps.length cP) ∧ w'.cell? ⟨w3.heap.size, 1, none⟩ = some (.slice (some ⟨gY, 0, none⟩) L.length cY) ∧ w'.cell? ⟨w3.heap.size, 2, none⟩ = some (.slice (some ⟨gZ, 0, none⟩) zs.length cZ) ∧ w'.cell? ⟨w.heap.size + 1, 0, none⟩ = some (.slice A1 ps.length c1) ∧ w'.cell? ⟨w.heap.size + 1, 1, none⟩ = some (.slice A2 ys.length c2) ∧ w'.cell? ⟨w.heap.size + 1, 2, none⟩ = some (.slice A3 zs.length c3)) (ds := []) #[false, false, false, false, false, false, false, false, false, false, false] (by kernel_rfl) rfl rfl ⟨(blk_cell KX9.out 0).trans rfl, (blk_cell KX9.out 1).trans rfl, (blk_cell KX9.out 2).trans rfl, (blk_cell KC9.out 0).trans rfl, (blk_cell KC9.out 1).trans rfl, (blk_cell KC9.out 2).trans rfl⟩ (fun hHeld => ?_)
    refine with_tabW certChecks_tab12 certChecks_bits12 (fun HT_ HW_ => ?_)
    generalize wr.drew = w9 at HB9 KG9 KC9 HME9 KI9 HMP9 HMY9 HMZ9 KX9 hHeld ⊢
    refine pure_ (i := 0) (N := some 79) (v := ?_) (a' := ?_) #[true, false, false, false, false, false, false, false, false, false, false] rfl rfl (any_of HT_.out (by kernel_rfl)) (fun _ _ _ h => h) (Or.inl ⟨by rfl, ?_⟩) ?_ ?_
    rotate_left
    ·intro w'
     go_simp
     with_reducible rfl
    rotate_left
    ·simp only [Act.put, List.setIfInBounds_toArray, List.set_cons_zero, List.set_cons_succ, i64_w, i32_w]
     rfl
    refine pure_ (i := 3) (N := some 82) (v := ?_) (a' := ?_) #[true, false, false, true, false, false, false, false, false, false, false] rfl rfl (any_of HT_.out (by kernel_rfl)) (fun _ _ _ h => h) (Or.inl ⟨by rfl, ?_⟩) ?_ ?_
    rotate_left
    ·intro w'
     go_simp
     with_reducible rfl
    rotate_left
    ·simp only [Act.put, List.setIfInBounds_toArray, List.set_cons_zero, List.set_cons_succ, i64_w, i32_w]
     rfl
    refine pure_ (i := 6) (N := some 85) (v := ?_) (a' := ?_) #[true, false, false, true, false, false, true, false, false, false, false] rfl rfl (any_of HT_.out (by kernel_rfl)) (fun _ _ _ h => h) (Or.inl ⟨by rfl, ?_⟩) ?_ ?_
    rotate_left
    ·intro w'
     go_simp
     with_reducible rfl
    rotate_left
    ·simp only [Act.put, List.setIfInBounds_toArray, List.set_cons_zero, List.set_cons_succ, i64_w, i32_w]
     rfl
    refine take_ (i := 1) (N := some 80) (v := ?_) (a' := ?_) #[true, true, false, true, false, false, true, false, false, false, false] rfl rfl (take_ofW HT_.out HW_.out (by kernel_rfl)) (fun _ _ _ h => h) (Or.inl ⟨by rfl, ?_⟩) hHeld ?_ ?_
    rotate_left
    ·rintro w' ⟨s0, s1, s2, s3, s4, s5⟩
     go_simp
     with_reducible rfl
    rotate_left
    ·simp only [Act.put, List.setIfInBounds_toArray, List.set_cons_zero, List.set_cons_succ, i64_w, i32_w]
     rfl
    refine take_ (i := 4) (N := some 83) (v := ?_) (a' := ?_) #[true, true, false, true, true, false, true, false, false, false, false] rfl rfl (take_ofW HT_.out HW_.out (by kernel_rfl)) (fun _ _ _ h => h) (Or.inl ⟨by rfl, ?_⟩) hHeld ?_ ?_
    rotate_left
    ·rintro w' ⟨s0, s1, s2, s3, s4, s5⟩
     go_simp
     with_reducible rfl
    rotate_left
    ·simp only [Act.put, List.setIfInBounds_toArray, List.set_cons_zero, List.set_cons_succ, i64_w, i32_w]
     rfl
    refine take_ (i := 7) (N := some 86) (v := ?_) (a' := ?_) #[true, true, false, true, true, false, true, true, false, false, false] rfl rfl (take_ofW HT_.out HW_.out (by kernel_rfl)) (fun _ _ _ h => h) (Or.inl ⟨by rfl, ?_⟩) hHeld ?_ ?_
    rotate_left
    ·rintro w' ⟨s0, s1, s2, s3, s4, s5⟩
     go_simp
     with_reducible rfl
    rotate_left
    ·simp only [Act.put, List.setIfInBounds_toArray, List.set_cons_zero, List.set_cons_succ, i64_w, i32_w]
     rfl
    refine join_ (σ := Value × Option Addr × Nat × Nat) 1 #[true, true, true, true, true, true, true, true, true, true, false] (fun s => [(81, s.1), (84, .slice s.2.1 L.length s.2.2.1), (9, .pointer (some ⟨s.2.2.2, 0, none⟩)), (87, .agg #[.slice A1 ps.length c1, .slice s.2.1 L.length s.2.2.1, .slice A3 zs.length c3])]) (fun s w' => match s with | (_, A8, c8, gt) => w.heap.size ≤ gt ∧ (w.heap.size ≠ gt ∧ w.heap.size + 1 ≠ gt ∧ w2.heap.size ≠ gt ∧ w3.heap.size ≠ gt ∧ go ≠ gt ∧ gP ≠ gt ∧ gY ≠ gt ∧ gZ ≠ gt) ∧ Aside0 (Below w.heap.size w w') ∧ Aside0 (w'.heap[w.heap.size]? = some (.cells #[.int .i64 R, .int .i64 C, .slice A0 es.length c0] 24 (0, 0))) ∧ Aside0 (w'.heap[w.heap.size + 1]? = some (.cells #[.slice A1 ps.length c1, .slice A2 ys.length c2, .slice A3 zs.length c3] 28 (0, 0))) ∧ Aside0 (MEdges w' w.heap.size go co es) ∧ Aside0 (w'.heap[w2.heap.size]? = some (.cells #[.int .i64 R, .int .i64 C, .slice (some ⟨go, 0, none⟩) es.length co] 24 (0, 0))) ∧ Aside0 (MPairs w' w.heap.size gP cP ps) ∧ Aside0 (MInts w' w.heap.size gY cY L) ∧ Aside0 (MInts w' w.heap.size gZ cZ zs) ∧ Aside0 (w'.heap[w3.heap.size]? = some (.cells #[.slice (some ⟨gP, 0, none⟩) ps.length cP, .slice (some ⟨gY, 0, none⟩) L.length cY, .slice (some ⟨gZ, 0, none⟩) zs.length cZ] 28 (0, 0))) ∧ Aside0 (w'.heap[gt]? = some (.cells #[.slice none 0 0, .slice none 0 0, .slice none 0 0] 28 (0, 0))) ∧ Aside0 (Kd.R (Kd.int .i64) 3 w' w.heap.size (fun _ => True) (.slice A8 L.length c8) L)) ?cont (fun hJ => ?_)
    case cont =>
     rintro ⟨v81, A8, c8, gt⟩ w10 ⟨hgt, hkl, HB10, KG10, KC10, HME10, KI10, HMP10, HMY10, HMZ10, KX10, KT10, HO10⟩
     have HGT : Aside0 (w.heap.size ≤ gt) := ⟨hgt⟩
     have HKL : Aside0 (w.heap.size ≠ gt ∧ w.heap.size + 1 ≠ gt ∧ w2.heap.size ≠ gt ∧ w3.heap.size ≠ gt ∧ go ≠ gt ∧ gP ≠ gt ∧ gY ≠ gt ∧ gZ ≠ gt) := ⟨hkl⟩
     clear hgt hkl hHeld HB9 KG9 KC9 HME9 KI9 HMP9 HMY9 HMZ9 KX9
     refine norm_ (a' := ?_) ?_ ?_
     rotate_left
     ·simp only [putAll, Act.put, List.setIfInBounds_toArray, List.set_cons_zero, List.set_cons_succ]
      rfl
     have rc0 : w10.cell? ⟨gt, 0, none⟩ = some (.slice none 0 0) := (blk_cell KT10.out 0).trans rfl
     have rf0 := blk_frozen KT10.out 0
     have rc1 : w10.cell? ⟨gt, 1, none⟩ = some (.slice none 0 0) := (blk_cell KT10.out 1).trans rfl
     have rf1 := blk_frozen KT10.out 1
     have rc2 : w10.cell? ⟨gt, 2, none⟩ = some (.slice none 0 0) := (blk_cell KT10.out 2).trans rfl
     have rf2 := blk_frozen KT10.out 2
     refine one_ (i := 10) (N := none) #[true, true, true, true, true, true, true, true, true, true, true] rfl rfl (one_of HT_.out (by kernel_rfl)) (by decide) (fun K hK => ?_)
     refine skip_ (w1 := (((w10.setCell ⟨gt, 0, none⟩ (.slice A1 ps.length c1)).setCell ⟨gt, 1, none⟩ (.slice A8 L.length c8)).setCell ⟨gt, 2, none⟩ (.slice A3 zs.length c3))) (by rfl) rfl ?_ ?_
     ·first | (go_simp; done) | (go_simp; rfl)
     clear rc0 rc1 rc2 rf0 rf1 rf2
     have hs := set3_far w10 (gt) (.slice A1 ps.length c1) (.slice A8 L.length c8) (.slice A3 zs.length c3)
     have HGE : w.heap.size ≤ gt := HGT.out
     have HB11 : Aside0 (Below w.heap.size w (((w10.setCell ⟨gt, 0, none⟩ (.slice A1 ps.length c1)).setCell ⟨gt, 1, none⟩ (.slice A8 L.length c8)).setCell ⟨gt, 2, none⟩ (.slice A3 zs.length c3))) := ⟨below_set (below_set (below_set HB10.out HGE) HGE) HGE⟩
     have KG11 := Aside0.mk ((hs _ HKL.out.1).trans KG10.out)
     have KC11 := Aside0.mk ((hs _ HKL.out.2.1).trans KC10.out)
     have HME11 := Aside0.mk (edges_step HME10.out (hs _ HKL.out.2.2.2.2.1))
     have KI11 := Aside0.mk ((hs _ HKL.out.2.2.1).trans KI10.out)
     have HMP11 := Aside0.mk (pairs_step HMP10.out (hs _ HKL.out.2.2.2.2.2.1))
     have HMY11 := Aside0.mk (ints_step HMY10.out (hs _ HKL.out.2.2.2.2.2.2.1))
     have HMZ11 := Aside0.mk (ints_step HMZ10.out (hs _ HKL.out.2.2.2.2.2.2.2))
     have KX11 := Aside0.mk ((hs _ HKL.out.2.2.2.1).trans KX10.out)
     have KT11 := Aside0.mk (set3 KT10.out (.slice A1 ps.length c1) (.slice A8 L.length c8) (.slice A3 zs.length c3))
     have HO11 := Aside0.mk (own_step HO10.out (fun k hk => hs k (fun e => Kd.R_ne HO10.out KT10.out (by decide) (by rw [hk, e]))))
     clear hs HGE HB10 KG10 KC10 HME10 KI10 HMP10 HMY10 HMZ10 KX10 KT10 HO10
     generalize (((w10.setCell ⟨gt, 0, none⟩ (.slice A1 ps.length c1)).setCell ⟨gt, 1, none⟩ (.slice A8 L.length c8)).setCell ⟨gt, 2, none⟩ (.slice A3 zs.length c3)) = w11 at HB11 KG11 KC11 HME11 KI11 HMP11 HMY11 HMZ11 KX11 KT11 HO11 ⊢
     refine hK.out _ _ ⟨(blk_cell KX11.out 0).trans rfl, (blk_cell KX11.out 1).trans rfl, (blk_cell KX11.out 2).trans rfl, (blk_cell KC11.out 0).trans rfl, (blk_cell KC11.out 1).trans rfl, (blk_cell KC11.out 2).trans rfl⟩ (fun hHeld => ?_)
     clear hK K
     refine done_ (done_of HT_.out (by kernel_rfl)) ?_
     clear hHeld HT_ HW_
     go_wp2_with fail
     have hbd : Below w11.heap.size w11 w11.drew := below_drew1 (Below.refl _ _)
     have HB12 := Aside0.mk (below_step HB11.out hbd)
     have KG12 := Aside0.mk ((hbd.block _ (blk_lt KG11.out)).trans KG11.out)
     have KC12 := Aside0.mk ((hbd.block _ (blk_lt KC11.out)).trans KC11.out)
     have HME12 := Aside0.mk (HME11.out.below hbd)
     have KI12 := Aside0.mk ((hbd.block _ (blk_lt KI11.out)).trans KI11.out)
     have HMP12 := Aside0.mk (HMP11.out.below hbd)
     have HMY12 := Aside0.mk (HMY11.out.below hbd)
     have HMZ12 := Aside0.mk (HMZ11.out.below hbd)
     have KX12 := Aside0.mk ((hbd.block _ (blk_lt KX11.out)).trans KX11.out)
     have KT12 := Aside0.mk ((hbd.block _ (blk_lt KT11.out)).trans KT11.out)
     have HO12 := Aside0.mk (Kd.R_below HO11.out hbd)
     clear HB11 KG11 KC11 HME11 KI11 HMP11 HMY11 HMZ11 KX11 KT11 HO11 hbd
     refine start_ (n := 11) (S := fun w' => w'.cell? ⟨w.heap.size, 0, none⟩ = some (.int .i64 R) ∧ w'.cell? ⟨w.heap.size, 1, none⟩ = some (.int .i64 C) ∧ w'.cell? ⟨w.heap.size, 2, none⟩ = some (.slice A0 es.length c0) ∧ w'.cell? ⟨w2.heap.size, 0, none⟩ = some (.int .i64 R) ∧ w'.cell? ⟨w2.heap.size, 1, none⟩ = some (.int .i64 C) ∧ w'.cell? ⟨w2.heap.size, 2, none⟩ = some (.slice (some ⟨go, 0, none⟩) es.length co) ∧ w'.cell? ⟨w3.heap.size, 0, none⟩ = some (.slice (some ⟨gP, 0, none⟩) ps.length cP) ∧ w'.cell? ⟨w3.heap.size, 1, none⟩ = some (.slice (some ⟨gY, 0, none⟩) L.length cY) ∧ w'.cell? ⟨w3.heap.size, 2, none⟩ = some (.slice (some ⟨gZ, 0, none⟩) zs.length cZ) ∧ w'.cell? ⟨gt, 0, none⟩ = some (.slice A1 ps.length c1) ∧ w'.cell? ⟨gt, 1, none⟩ = some (.slice A8 L.length c8) ∧ w'.cell? ⟨gt, 2, none⟩ = some (.slice A3 zs.length c3)) (ds := []) #[false, false, false, false, false, false, false, false, false, false, false] (by kernel_rfl) rfl rfl ⟨(blk_cell KG12.out 0).trans rfl, (blk_cell KG12.out 1).trans rfl, (blk_cell KG12.out 2).trans rfl, (blk_cell KI12.out 0).trans rfl, (blk_cell KI12.out 1).trans rfl, (blk_cell KI12.out 2).trans rfl, (blk_cell KX12.out 0).trans rfl, (blk_cell KX12.out 1).trans rfl, (blk_cell KX12.out 2).trans rfl, (blk_cell KT12.out 0).trans rfl, (blk_cell KT12.out 1).trans rfl, (blk_cell KT12.out 2).trans rfl⟩ (fun hHeld => ?_)
     refine with_tabW certChecks_tab13 certChecks_bits13 (fun HT_ HW_ => ?_)
     generalize w11.drew = w12 at HB12 KG12 KC12 HME12 KI12 HMP12 HMY12 HMZ12 KX12 KT12 HO12 hHeld ⊢
     obtain ⟨kf, r2, hf1, hf2⟩ := certs_alike R C es ps L zs HL.out.2 HS0.out HS1.out (by rw [HL.out.1]; exact HS2.out) HS3.out
     have HF1 := Aside0.mk hf1
     have HF2 := Aside0.mk hf2
     clear hf1 hf2
     refine take_ (i := 0) (N := some 88) (v := ?_) (a' := ?_) #[true, false, false, false, false, false, false, false, false, false, false] rfl rfl (take_ofW HT_.out HW_.out (by kernel_rfl)) (fun _ _ _ h => h) (Or.inl ⟨by rfl, ?_⟩) hHeld ?_ ?_
     rotate_left
     ·rintro w' ⟨s0, s1, s2, s3, s4, s5, s6, s7, s8, s9, s10, s11⟩
      go_simp
      with_reducible rfl
     rotate_left
     ·simp only [Act.put, List.setIfInBounds_toArray, List.set_cons_zero, List.set_cons_succ, i64_w, i32_w]
      rfl
     refine take_ (i := 1) (N := some 89) (v := ?_) (a' := ?_) #[true, true, false, false, false, false, false, false, false, false, false] rfl rfl (take_ofW HT_.out HW_.out (by kernel_rfl)) (fun _ _ _ h => h) (Or.inl ⟨by rfl, ?_⟩) hHeld ?_ ?_
     rotate_left
     ·rintro w' ⟨s0, s1, s2, s3, s4, s5, s6, s7, s8, s9, s10, s11⟩
      go_simp
      with_reducible rfl
     rotate_left
     ·simp only [Act.put, List.setIfInBounds_toArray, List.set_cons_zero, List.set_cons_succ, i64_w, i32_w]
      rfl
     refine take_ (i := 3) (N := some 91) (v := ?_) (a' := ?_) #[true, true, false, true, false, false, false, false, false, false, false] rfl rfl (take_ofW HT_.out HW_.out (by kernel_rfl)) (fun _ _ _ h => h) (Or.inl ⟨by rfl, ?_⟩) hHeld ?_ ?_
     rotate_left
     ·rintro w' ⟨s0, s1, s2, s3, s4, s5, s6, s7, s8, s9, s10, s11⟩
      go_simp
      with_reducible rfl
     rotate_left
     ·simp only [Act.put, List.setIfInBounds_toArray, List.set_cons_zero, List.set_cons_succ, i64_w, i32_w]
      rfl
     refine take_ (i := 4) (N := some 92) (v := ?_) (a' := ?_) #[true, true, false, true, true, false, false, false, false, false, false] rfl rfl (take_ofW HT_.out HW_.out (by kernel_rfl)) (fun _ _ _ h => h) (Or.inl ⟨by rfl, ?_⟩) hHeld ?_ ?_
     rotate_left
     ·rintro w' ⟨s0, s1, s2, s3, s4, s5, s6, s7, s8, s9, s10, s11⟩
      go_simp
      with_reducible rfl
     rotate_left
     ·simp only [Act.put, List.setIfInBounds_toArray, List.set_cons_zero, List.set_cons_succ, i64_w, i32_w]
      rfl
     refine one_ (i := 2) (N := some 90) #[true, true, true, true, true, false, false, false, false, false, false] rfl rfl (one_of HT_.out (by kernel_rfl)) (by decide) (fun K hK => ?_)
     refine goes_ Try.func13 (by kernel_rfl) rfl #[.agg #[.int .i64 R, .int .i64 C, .slice (some ⟨go, 0, none⟩) es.length co], .agg #[.slice (some ⟨gP, 0, none⟩) ps.length cP, .slice (some ⟨gY, 0, none⟩) L.length cY, .slice (some ⟨gZ, 0, none⟩) zs.length cZ]] (by rfl) rfl rfl (by (try simp only [List.map_toArray, List.map_cons, List.map_nil]); first | done | rfl) ?_
     refine (cert_Check.calls R C (some ⟨go, 0, none⟩) co es (some ⟨gP, 0, none⟩) cP ps (some ⟨gY, 0, none⟩) cY L (some ⟨gZ, 0, none⟩) cZ zs r2 w12 HME12.out.reads (Nat.le_of_lt HME12.out.lt) HMP12.out.reads (Nat.le_of_lt HMP12.out.lt) HMY12.out.reads (Nat.le_of_lt HMY12.out.lt) HMZ12.out.reads (Nat.le_of_lt HMZ12.out.lt) HF1.out).mono ?_
     rintro e w13 ⟨rfl, hb⟩
     refine ⟨_, rfl, ?_⟩
     have HB13 := Aside0.mk (below_step HB12.out hb)
     have KG13 := Aside0.mk ((hb.block _ (blk_lt KG12.out)).trans KG12.out)
     have KC13 := Aside0.mk ((hb.block _ (blk_lt KC12.out)).trans KC12.out)
     have HME13 := Aside0.mk (HME12.out.below hb)
     have KI13 := Aside0.mk ((hb.block _ (blk_lt KI12.out)).trans KI12.out)
     have HMP13 := Aside0.mk (HMP12.out.below hb)
     have HMY13 := Aside0.mk (HMY12.out.below hb)
     have HMZ13 := Aside0.mk (HMZ12.out.below hb)
     have KX13 := Aside0.mk ((hb.block _ (blk_lt KX12.out)).trans KX12.out)
     have KT13 := Aside0.mk ((hb.block _ (blk_lt KT12.out)).trans KT12.out)
     have HO13 := Aside0.mk (Kd.R_below HO12.out hb)
     clear HB12 KG12 KC12 HME12 KI12 HMP12 HMY12 HMZ12 KX12 KT12 HO12 hb
     refine hK.out _ _ ⟨(blk_cell KG13.out 0).trans rfl, (blk_cell KG13.out 1).trans rfl, (blk_cell KG13.out 2).trans rfl, (blk_cell KI13.out 0).trans rfl, (blk_cell KI13.out 1).trans rfl, (blk_cell KI13.out 2).trans rfl, (blk_cell KX13.out 0).trans rfl, (blk_cell KX13.out 1).trans rfl, (blk_cell KX13.out 2).trans rfl, (blk_cell KT13.out 0).trans rfl, (blk_cell KT13.out 1).trans rfl, (blk_cell KT13.out 2).trans rfl⟩ (fun hHeld => ?_)
     clear hK K
     refine norm_ (a' := ?_) ?_ ?_
     rotate_left
     ·show Act.put _ (some 90) _ = _
      simp only [Act.put, List.setIfInBounds_toArray, List.set_cons_zero, List.set_cons_succ, i64_w, i32_w]
      rfl
     refine one_ (i := 5) (N := some 93) #[true, true, true, true, true, true, false, false, false, false, false] rfl rfl (one_of HT_.out (by kernel_rfl)) (by decide) (fun K hK => ?_)
     refine goes_ Try.func14 (by kernel_rfl) rfl #[.agg #[.int .i64 R, .int .i64 C, .slice A0 es.length c0], .agg #[.slice A1 ps.length c1, .slice A8 L.length c8, .slice A3 zs.length c3]] (by rfl) rfl rfl (by (try simp only [List.map_toArray, List.map_cons, List.map_nil]); first | done | rfl) ?_
     refine (cabstandref18_Check.calls kf R C A0 c0 es A1 c1 ps A8 c8 L A3 c3 zs r2 w13 (Kd.C_below HR0.out HB13.out) HC0.out (Kd.C_below HR1.out HB13.out) HC1.out (Kd.R_reads' HO13.out).2.2 (Kd.R_reads' HO13.out).2.1 (Kd.C_below HR3.out HB13.out) HC3.out HF2.out).mono ?_
     rintro e w14 ⟨rfl, hb⟩
     refine ⟨_, rfl, ?_⟩
     have HB14 := Aside0.mk (below_step HB13.out hb)
     have KG14 := Aside0.mk ((hb.block _ (blk_lt KG13.out)).trans KG13.out)
     have KC14 := Aside0.mk ((hb.block _ (blk_lt KC13.out)).trans KC13.out)
     have HME14 := Aside0.mk (HME13.out.below hb)
     have KI14 := Aside0.mk ((hb.block _ (blk_lt KI13.out)).trans KI13.out)
     have HMP14 := Aside0.mk (HMP13.out.below hb)
     have HMY14 := Aside0.mk (HMY13.out.below hb)
     have HMZ14 := Aside0.mk (HMZ13.out.below hb)
     have KX14 := Aside0.mk ((hb.block _ (blk_lt KX13.out)).trans KX13.out)
     have KT14 := Aside0.mk ((hb.block _ (blk_lt KT13.out)).trans KT13.out)
     have HO14 := Aside0.mk (Kd.R_below HO13.out hb)
     clear HB13 KG13 KC13 HME13 KI13 HMP13 HMY13 HMZ13 KX13 KT13 HO13 hb
     refine hK.out _ _ ⟨(blk_cell KG14.out 0).trans rfl, (blk_cell KG14.out 1).trans rfl, (blk_cell KG14.out 2).trans rfl, (blk_cell KI14.out 0).trans rfl, (blk_cell KI14.out 1).trans rfl, (blk_cell KI14.out 2).trans rfl, (blk_cell KX14.out 0).trans rfl, (blk_cell KX14.out 1).trans rfl, (blk_cell KX14.out 2).trans rfl, (blk_cell KT14.out 0).trans rfl, (blk_cell KT14.out 1).trans rfl, (blk_cell KT14.out 2).trans rfl⟩ (fun hHeld => ?_)
     clear hK K
     refine norm_ (a' := ?_) ?_ ?_
     rotate_left
     ·show Act.put _ (some 93) _ = _
      simp only [Act.put, List.setIfInBounds_toArray, List.set_cons_zero, List.set_cons_succ, i64_w, i32_w]
      rfl
     refine pure_ (i := 6) (N := some 94) (v := ?_) (a' := ?_) #[true, true, true, true, true, true, true, false, false, false, false] rfl rfl (any_of HT_.out (by kernel_rfl)) (fun _ _ _ h => h) (Or.inl ⟨by rfl, ?_⟩) ?_ ?_
     rotate_left
     ·intro w'
      go_simp
      with_reducible rfl
     rotate_left
     ·simp only [Act.put, List.setIfInBounds_toArray, List.set_cons_zero, List.set_cons_succ, i64_w, i32_w]
      rfl
     refine pure_ (i := 7) (N := some 95) (v := ?_) (a' := ?_) #[true, true, true, true, true, true, true, true, false, false, false] rfl rfl (any_of HT_.out (by kernel_rfl)) (fun _ _ _ h => h) (Or.inl ⟨by rfl, ?_⟩) ?_ ?_
     rotate_left
     ·intro w'
      go_simp
      with_reducible rfl
     rotate_left
     ·simp only [Act.put, List.setIfInBounds_toArray, List.set_cons_zero, List.set_cons_succ, i64_w, i32_w]
      rfl
     refine one_ (i := 8) (N := some 96) #[true, true, true, true, true, true, true, true, true, false, false] rfl rfl (one_of HT_.out (by kernel_rfl)) (by decide) (fun K hK => ?_)
     refine goes_ Try.func17 (by kernel_rfl) rfl #[] (by rfl) rfl rfl (by (try simp only [List.map_toArray, List.map_cons, List.map_nil]); first | done | rfl) ?_
     refine (alive_walk w14).mono ?_
     rintro e w15 ⟨rfl, hb⟩
     refine ⟨_, rfl, ?_⟩
     have HB15 := Aside0.mk (below_step HB14.out hb)
     have KG15 := Aside0.mk ((hb.block _ (blk_lt KG14.out)).trans KG14.out)
     have KC15 := Aside0.mk ((hb.block _ (blk_lt KC14.out)).trans KC14.out)
     have HME15 := Aside0.mk (HME14.out.below hb)
     have KI15 := Aside0.mk ((hb.block _ (blk_lt KI14.out)).trans KI14.out)
     have HMP15 := Aside0.mk (HMP14.out.below hb)
     have HMY15 := Aside0.mk (HMY14.out.below hb)
     have HMZ15 := Aside0.mk (HMZ14.out.below hb)
     have KX15 := Aside0.mk ((hb.block _ (blk_lt KX14.out)).trans KX14.out)
     have KT15 := Aside0.mk ((hb.block _ (blk_lt KT14.out)).trans KT14.out)
     have HO15 := Aside0.mk (Kd.R_below HO14.out hb)
     clear HB14 KG14 KC14 HME14 KI14 HMP14 HMY14 HMZ14 KX14 KT14 HO14 hb
     refine hK.out _ _ ⟨(blk_cell KG15.out 0).trans rfl, (blk_cell KG15.out 1).trans rfl, (blk_cell KG15.out 2).trans rfl, (blk_cell KI15.out 0).trans rfl, (blk_cell KI15.out 1).trans rfl, (blk_cell KI15.out 2).trans rfl, (blk_cell KX15.out 0).trans rfl, (blk_cell KX15.out 1).trans rfl, (blk_cell KX15.out 2).trans rfl, (blk_cell KT15.out 0).trans rfl, (blk_cell KT15.out 1).trans rfl, (blk_cell KT15.out 2).trans rfl⟩ (fun hHeld => ?_)
     clear hK K
     refine norm_ (a' := ?_) ?_ ?_
     rotate_left
     ·show Act.put _ (some 96) _ = _
      simp only [Act.put, List.setIfInBounds_toArray, List.set_cons_zero, List.set_cons_succ, i64_w, i32_w]
      rfl
     refine pure_ (i := 9) (N := some 97) (v := ?_) (a' := ?_) #[true, true, true, true, true, true, true, true, true, true, false] rfl rfl (any_of HT_.out (by kernel_rfl)) (fun _ _ _ h => h) (Or.inl ⟨by rfl, ?_⟩) ?_ ?_
     rotate_left
     ·intro w'
      go_simp
      with_reducible rfl
     rotate_left
     ·simp only [Act.put, List.setIfInBounds_toArray, List.set_cons_zero, List.set_cons_succ, i64_w, i32_w]
      rfl
     refine pure_ (i := 10) (N := some 4) (v := ?_) (a' := ?_) #[true, true, true, true, true, true, true, true, true, true, true] rfl rfl (any_of HT_.out (by kernel_rfl)) (fun _ _ _ h => h) (Or.inl ⟨by rfl, ?_⟩) ?_ ?_
     rotate_left
     ·intro w'
      go_simp
      with_reducible rfl
     rotate_left
     ·simp only [Act.put, List.setIfInBounds_toArray, List.set_cons_zero, List.set_cons_succ, i64_w, i32_w]
      rfl
     refine done_ (done_of HT_.out (by kernel_rfl)) ?_
     try go_wp2
     go_ret
     exact ⟨rfl, HB15.out⟩
    refine two_ (i := 2) (j := 9) (Ni := some 81) (Nj := some 9) #[true, true, true, true, true, false, true, true, false, false, false] #[true, true, false, true, true, false, true, true, false, true, false] rfl rfl rfl rfl (two_of HT_.out (by kernel_rfl)) (by decide) (by decide) (fun K hK => ?_) (fun K hK => ?_)
    ·have HLS : Aside0 (go < w9.heap.size ∧ gP < w9.heap.size ∧ gY < w9.heap.size ∧ gZ < w9.heap.size) := ⟨HME9.out.blk, HMP9.out.blk, HMY9.out.blk, HMZ9.out.blk⟩
     refine Kd.R_lit_step (Kd.int .i64) _ 3 ?hg (N := 81) ?hd (xs := ([] : List Int)) (inner := []) (ok := fun _ => True) (okp := fun _ => True) ?hr ?hp (fun _ hk => hk) trivial (Below.refl _ _) (Nat.le_refl _) (by simp) ?_
     case hd => rfl
     case hg => rfl
     case hr => first | (go_simp; done) | (go_simp; rfl)
     case hp => exact Reps.none _ _
     intro v81 w16 ho hb hg_ hnew
     have HN : Aside0 (∀ k, k < w9.heap.size → some k ≠ v81.ownBlock) := ⟨fun k hk he => by obtain ⟨b, h1, h2⟩ := hnew; rw [h1] at he; cases he; omega⟩
     have HO16 := Aside0.mk (Kd.R_lower ho HB9.out.size)
     clear ho hg_ hnew
     have HB16 := Aside0.mk (below_step HB9.out hb)
     have KG16 := Aside0.mk ((hb.block _ (blk_lt KG9.out)).trans KG9.out)
     have KC16 := Aside0.mk ((hb.block _ (blk_lt KC9.out)).trans KC9.out)
     have HME16 := Aside0.mk (HME9.out.below hb)
     have KI16 := Aside0.mk ((hb.block _ (blk_lt KI9.out)).trans KI9.out)
     have HMP16 := Aside0.mk (HMP9.out.below hb)
     have HMY16 := Aside0.mk (HMY9.out.below hb)
     have HMZ16 := Aside0.mk (HMZ9.out.below hb)
     have KX16 := Aside0.mk ((hb.block _ (blk_lt KX9.out)).trans KX9.out)
     clear HB9 KG9 KC9 HME9 KI9 HMP9 HMY9 HMZ9 KX9 hb
     refine hK.out _ _ ⟨(blk_cell KX16.out 0).trans rfl, (blk_cell KX16.out 1).trans rfl, (blk_cell KX16.out 2).trans rfl, (blk_cell KC16.out 0).trans rfl, (blk_cell KC16.out 1).trans rfl, (blk_cell KC16.out 2).trans rfl⟩ (fun hHeld => ?_)
     clear hK K
     refine norm_ (a' := ?_) ?_ ?_
     rotate_left
     ·show Act.put _ (some 81) _ = _
      simp only [Act.put, List.setIfInBounds_toArray, List.set_cons_zero, List.set_cons_succ, i64_w, i32_w]
      rfl
     refine two_ (i := 5) (j := 9) (Ni := some 84) (Nj := some 9) #[true, true, true, true, true, true, true, true, false, false, false] #[true, true, true, true, true, false, true, true, false, true, false] rfl rfl rfl rfl (two_of HT_.out (by kernel_rfl)) (by decide) (by decide) (fun K hK => ?_) (fun K hK => ?_)
     ·refine Kd.R_append_rows_step (Kd.int .i64) (w0 := w) w.heap.size ?hw (.tmp 81) (.tmp 83) 26 3 (.int .i64 0) 8 rfl Try.underlying26 info3 rfl (by decide) (by omega) v81 [] L _ _ _ (fun _ => True) (fun _ => False) rfl rfl ?aO ?aR (fun _ _ h => h) (fun _ h => h.elim) ?aF ?aB ?aS ?aL ?_
      case hw => rfl
      case aR => exact HMY16.out.reads
      case aB => exact HB16.out
      case aF => exact (fun _ _ => trivial)
      case aO => exact HO16.out
      case aS => exact HB16.out.size
      case aL => simp; omega
      intro v84 w17 ho hb hg hat
      have HB17 := Aside0.mk hb
      have KG17 := Aside0.mk (blk_grown KG16.out hg (Kd.R_ne HO16.out KG16.out (by decide)))
      have KC17 := Aside0.mk (blk_grown KC16.out hg (Kd.R_ne HO16.out KC16.out (by decide)))
      have HME17 := Aside0.mk (edges_step HME16.out (hg.block _ HME16.out.blk (HN.out _ HLS.out.1)))
      have KI17 := Aside0.mk (blk_grown KI16.out hg (Kd.R_ne HO16.out KI16.out (by decide)))
      have HMP17 := Aside0.mk (pairs_step HMP16.out (hg.block _ HMP16.out.blk (HN.out _ HLS.out.2.1)))
      have HMY17 := Aside0.mk (ints_step HMY16.out (hg.block _ HMY16.out.blk (HN.out _ HLS.out.2.2.1)))
      have HMZ17 := Aside0.mk (ints_step HMZ16.out (hg.block _ HMZ16.out.blk (HN.out _ HLS.out.2.2.2)))
      have KX17 := Aside0.mk (blk_grown KX16.out hg (Kd.R_ne HO16.out KX16.out (by decide)))
      have HO17 : Aside0 (Kd.R (Kd.int .i64) 3 w17 w.heap.size (fun _ => True) v84 L) := ⟨ho⟩
      clear ho hb hg hat HB16 KG16 KC16 HME16 KI16 HMP16 HMY16 HMZ16 KX16 HO16
      obtain ⟨A8, c8, e8⟩ := Kd.R_slice HO17.out
      subst e8
      refine hK.out _ _ ⟨(blk_cell KX17.out 0).trans rfl, (blk_cell KX17.out 1).trans rfl, (blk_cell KX17.out 2).trans rfl, (blk_cell KC17.out 0).trans rfl, (blk_cell KC17.out 1).trans rfl, (blk_cell KC17.out 2).trans rfl⟩ (fun hHeld => ?_)
      clear hK K
      refine norm_ (a' := ?_) ?_ ?_
      rotate_left
      ·show Act.put _ (some 84) _ = _
       simp only [Act.put, List.setIfInBounds_toArray, List.set_cons_zero, List.set_cons_succ, i64_w, i32_w]
       rfl
      refine pure_ (i := 8) (N := some 87) (v := ?_) (a' := ?_) #[true, true, true, true, true, true, true, true, true, false, false] rfl rfl (any_of HT_.out (by kernel_rfl)) (fun _ _ _ h => h) (Or.inl ⟨by rfl, ?_⟩) ?_ ?_
      rotate_left
      ·intro w'
       go_simp
       with_reducible rfl
      rotate_left
      ·simp only [Act.put, List.setIfInBounds_toArray, List.set_cons_zero, List.set_cons_succ, i64_w, i32_w]
       rfl
      refine one_ (i := 9) (N := some 9) #[true, true, true, true, true, true, true, true, true, true, false] rfl rfl (one_of HT_.out (by kernel_rfl)) (by decide) (fun K hK => ?_)
      have HGT : Aside0 (w.heap.size ≤ w17.heap.size) := ⟨HB17.out.size⟩
      have HKL : Aside0 (w.heap.size ≠ w17.heap.size ∧ w.heap.size + 1 ≠ w17.heap.size ∧ w2.heap.size ≠ w17.heap.size ∧ w3.heap.size ≠ w17.heap.size ∧ go ≠ w17.heap.size ∧ gP ≠ w17.heap.size ∧ gY ≠ w17.heap.size ∧ gZ ≠ w17.heap.size) := ⟨Nat.ne_of_lt (blk_lt KG17.out), Nat.ne_of_lt (blk_lt KC17.out), Nat.ne_of_lt (blk_lt KI17.out), Nat.ne_of_lt (blk_lt KX17.out), Nat.ne_of_lt HME17.out.blk, Nat.ne_of_lt HMP17.out.blk, Nat.ne_of_lt HMY17.out.blk, Nat.ne_of_lt HMZ17.out.blk⟩
      refine value_ (v := .pointer (some ⟨w17.heap.size, 0, none⟩)) (w1 := w17.alloc (.cells #[.slice none 0 0, .slice none 0 0, .slice none 0 0] 28)) (by rfl) rfl ?_ ?_
      ·first | (go_simp; done) | (go_simp; rfl)
      have hba : Below w17.heap.size w17 (w17.alloc (.cells #[.slice none 0 0, .slice none 0 0, .slice none 0 0] 28)) := below_new _ _
      have KT18 : Aside0 ((w17.alloc (.cells #[.slice none 0 0, .slice none 0 0, .slice none 0 0] 28)).heap[w17.heap.size]? = some (.cells #[.slice none 0 0, .slice none 0 0, .slice none 0 0] 28 (0, 0))) := ⟨blk_new _ _⟩
      have HB18 := Aside0.mk (below_step HB17.out hba)
      have KG18 := Aside0.mk ((hba.block _ (blk_lt KG17.out)).trans KG17.out)
      have KC18 := Aside0.mk ((hba.block _ (blk_lt KC17.out)).trans KC17.out)
      have HME18 := Aside0.mk (HME17.out.below hba)
      have KI18 := Aside0.mk ((hba.block _ (blk_lt KI17.out)).trans KI17.out)
      have HMP18 := Aside0.mk (HMP17.out.below hba)
      have HMY18 := Aside0.mk (HMY17.out.below hba)
      have HMZ18 := Aside0.mk (HMZ17.out.below hba)
      have KX18 := Aside0.mk ((hba.block _ (blk_lt KX17.out)).trans KX17.out)
      have HO18 := Aside0.mk (Kd.R_below HO17.out hba)
      clear HB17 KG17 KC17 HME17 KI17 HMP17 HMY17 HMZ17 KX17 HO17 hba
      generalize (w17.alloc (.cells #[.slice none 0 0, .slice none 0 0, .slice none 0 0] 28)) = w18 at HB18 KG18 KC18 HME18 KI18 HMP18 HMY18 HMZ18 KX18 HO18 KT18 ⊢
      refine hK.out _ _ ⟨(blk_cell KX18.out 0).trans rfl, (blk_cell KX18.out 1).trans rfl, (blk_cell KX18.out 2).trans rfl, (blk_cell KC18.out 0).trans rfl, (blk_cell KC18.out 1).trans rfl, (blk_cell KC18.out 2).trans rfl⟩ (fun hHeld => ?_)
      clear hK K
      refine norm_ (a' := ?_) ?_ ?_
      rotate_left
      ·show Act.put _ (some 9) _ = _
       simp only [Act.put, List.setIfInBounds_toArray, List.set_cons_zero, List.set_cons_succ, i64_w, i32_w]
       rfl
      exact norm_ (by first | (simp only [putAll, Act.put, List.setIfInBounds_toArray, List.set_cons_zero, List.set_cons_succ]; done) | (simp only [putAll, Act.put, List.setIfInBounds_toArray, List.set_cons_zero, List.set_cons_succ]; rfl)) (hJ (v81, A8, c8, w17.heap.size) _ ⟨HGT.out, HKL.out, HB18, KG18, KC18, HME18, KI18, HMP18, HMY18, HMZ18, KX18, KT18, HO18⟩)
     ·have HGT : Aside0 (w.heap.size ≤ w16.heap.size) := ⟨HB16.out.size⟩
      have HKL : Aside0 (w.heap.size ≠ w16.heap.size ∧ w.heap.size + 1 ≠ w16.heap.size ∧ w2.heap.size ≠ w16.heap.size ∧ w3.heap.size ≠ w16.heap.size ∧ go ≠ w16.heap.size ∧ gP ≠ w16.heap.size ∧ gY ≠ w16.heap.size ∧ gZ ≠ w16.heap.size) := ⟨Nat.ne_of_lt (blk_lt KG16.out), Nat.ne_of_lt (blk_lt KC16.out), Nat.ne_of_lt (blk_lt KI16.out), Nat.ne_of_lt (blk_lt KX16.out), Nat.ne_of_lt HME16.out.blk, Nat.ne_of_lt HMP16.out.blk, Nat.ne_of_lt HMY16.out.blk, Nat.ne_of_lt HMZ16.out.blk⟩
      refine value_ (v := .pointer (some ⟨w16.heap.size, 0, none⟩)) (w1 := w16.alloc (.cells #[.slice none 0 0, .slice none 0 0, .slice none 0 0] 28)) (by rfl) rfl ?_ ?_
      ·first | (go_simp; done) | (go_simp; rfl)
      have hba : Below w16.heap.size w16 (w16.alloc (.cells #[.slice none 0 0, .slice none 0 0, .slice none 0 0] 28)) := below_new _ _
      have KT17 : Aside0 ((w16.alloc (.cells #[.slice none 0 0, .slice none 0 0, .slice none 0 0] 28)).heap[w16.heap.size]? = some (.cells #[.slice none 0 0, .slice none 0 0, .slice none 0 0] 28 (0, 0))) := ⟨blk_new _ _⟩
      have HB17 := Aside0.mk (below_step HB16.out hba)
      have KG17 := Aside0.mk ((hba.block _ (blk_lt KG16.out)).trans KG16.out)
      have KC17 := Aside0.mk ((hba.block _ (blk_lt KC16.out)).trans KC16.out)
      have HME17 := Aside0.mk (HME16.out.below hba)
      have KI17 := Aside0.mk ((hba.block _ (blk_lt KI16.out)).trans KI16.out)
      have HMP17 := Aside0.mk (HMP16.out.below hba)
      have HMY17 := Aside0.mk (HMY16.out.below hba)
      have HMZ17 := Aside0.mk (HMZ16.out.below hba)
      have KX17 := Aside0.mk ((hba.block _ (blk_lt KX16.out)).trans KX16.out)
      have HO17 := Aside0.mk (Kd.R_below HO16.out hba)
      clear HB16 KG16 KC16 HME16 KI16 HMP16 HMY16 HMZ16 KX16 HO16 hba
      generalize (w16.alloc (.cells #[.slice none 0 0, .slice none 0 0, .slice none 0 0] 28)) = w17 at HB17 KG17 KC17 HME17 KI17 HMP17 HMY17 HMZ17 KX17 HO17 KT17 ⊢
      refine hK.out _ _ ⟨(blk_cell KX17.out 0).trans rfl, (blk_cell KX17.out 1).trans rfl, (blk_cell KX17.out 2).trans rfl, (blk_cell KC17.out 0).trans rfl, (blk_cell KC17.out 1).trans rfl, (blk_cell KC17.out 2).trans rfl⟩ (fun hHeld => ?_)
      clear hK K
      refine norm_ (a' := ?_) ?_ ?_
      rotate_left
      ·show Act.put _ (some 9) _ = _
       simp only [Act.put, List.setIfInBounds_toArray, List.set_cons_zero, List.set_cons_succ, i64_w, i32_w]
       rfl
      refine one_ (i := 5) (N := some 84) #[true, true, true, true, true, true, true, true, false, true, false] rfl rfl (one_of HT_.out (by kernel_rfl)) (by decide) (fun K hK => ?_)
      refine Kd.R_append_rows_step (Kd.int .i64) (w0 := w) w.heap.size ?hw (.tmp 81) (.tmp 83) 26 3 (.int .i64 0) 8 rfl Try.underlying26 info3 rfl (by decide) (by omega) v81 [] L _ _ _ (fun _ => True) (fun _ => False) rfl rfl ?aO ?aR (fun _ _ h => h) (fun _ h => h.elim) ?aF ?aB ?aS ?aL ?_
      case hw => rfl
      case aR => exact HMY17.out.reads
      case aB => exact HB17.out
      case aF => exact (fun _ _ => trivial)
      case aO => exact HO17.out
      case aS => exact HB17.out.size
      case aL => simp; omega
      intro v84 w18 ho hb hg hat
      have HB18 := Aside0.mk hb
      have KG18 := Aside0.mk (blk_grown KG17.out hg (Kd.R_ne HO17.out KG17.out (by decide)))
      have KC18 := Aside0.mk (blk_grown KC17.out hg (Kd.R_ne HO17.out KC17.out (by decide)))
      have HME18 := Aside0.mk (edges_step HME17.out (hg.block _ HME17.out.blk (HN.out _ HLS.out.1)))
      have KI18 := Aside0.mk (blk_grown KI17.out hg (Kd.R_ne HO17.out KI17.out (by decide)))
      have HMP18 := Aside0.mk (pairs_step HMP17.out (hg.block _ HMP17.out.blk (HN.out _ HLS.out.2.1)))
      have HMY18 := Aside0.mk (ints_step HMY17.out (hg.block _ HMY17.out.blk (HN.out _ HLS.out.2.2.1)))
      have HMZ18 := Aside0.mk (ints_step HMZ17.out (hg.block _ HMZ17.out.blk (HN.out _ HLS.out.2.2.2)))
      have KX18 := Aside0.mk (blk_grown KX17.out hg (Kd.R_ne HO17.out KX17.out (by decide)))
      have KT18 := Aside0.mk (blk_grown KT17.out hg (Kd.R_ne HO17.out KT17.out (by decide)))
      have HO18 : Aside0 (Kd.R (Kd.int .i64) 3 w18 w.heap.size (fun _ => True) v84 L) := ⟨ho⟩
      clear ho hb hg hat HB17 KG17 KC17 HME17 KI17 HMP17 HMY17 HMZ17 KX17 HO17 KT17
      obtain ⟨A8, c8, e8⟩ := Kd.R_slice HO18.out
      subst e8
      refine hK.out _ _ ⟨(blk_cell KX18.out 0).trans rfl, (blk_cell KX18.out 1).trans rfl, (blk_cell KX18.out 2).trans rfl, (blk_cell KC18.out 0).trans rfl, (blk_cell KC18.out 1).trans rfl, (blk_cell KC18.out 2).trans rfl⟩ (fun hHeld => ?_)
      clear hK K
      refine norm_ (a' := ?_) ?_ ?_
      rotate_left
      ·show Act.put _ (some 84) _ = _
       simp only [Act.put, List.setIfInBounds_toArray, List.set_cons_zero, List.set_cons_succ, i64_w, i32_w]
       rfl
      refine pure_ (i := 8) (N := some 87) (v := ?_) (a' := ?_) #[true, true, true, true, true, true, true, true, true, true, false] rfl rfl (any_of HT_.out (by kernel_rfl)) (fun _ _ _ h => h) (Or.inl ⟨by rfl, ?_⟩) ?_ ?_
      rotate_left
      ·intro w'
       go_simp
       with_reducible rfl
      rotate_left
      ·simp only [Act.put, List.setIfInBounds_toArray, List.set_cons_zero, List.set_cons_succ, i64_w, i32_w]
       rfl
      exact norm_ (by first | (simp only [putAll, Act.put, List.setIfInBounds_toArray, List.set_cons_zero, List.set_cons_succ]; done) | (simp only [putAll, Act.put, List.setIfInBounds_toArray, List.set_cons_zero, List.set_cons_succ]; rfl)) (hJ (v81, A8, c8, w16.heap.size) _ ⟨HGT.out, HKL.out, HB18, KG18, KC18, HME18, KI18, HMP18, HMY18, HMZ18, KX18, KT18, HO18⟩)
    ·have HGT : Aside0 (w.heap.size ≤ w9.heap.size) := ⟨HB9.out.size⟩
     have HKL : Aside0 (w.heap.size ≠ w9.heap.size ∧ w.heap.size + 1 ≠ w9.heap.size ∧ w2.heap.size ≠ w9.heap.size ∧ w3.heap.size ≠ w9.heap.size ∧ go ≠ w9.heap.size ∧ gP ≠ w9.heap.size ∧ gY ≠ w9.heap.size ∧ gZ ≠ w9.heap.size) := ⟨Nat.ne_of_lt (blk_lt KG9.out), Nat.ne_of_lt (blk_lt KC9.out), Nat.ne_of_lt (blk_lt KI9.out), Nat.ne_of_lt (blk_lt KX9.out), Nat.ne_of_lt HME9.out.blk, Nat.ne_of_lt HMP9.out.blk, Nat.ne_of_lt HMY9.out.blk, Nat.ne_of_lt HMZ9.out.blk⟩
     refine value_ (v := .pointer (some ⟨w9.heap.size, 0, none⟩)) (w1 := w9.alloc (.cells #[.slice none 0 0, .slice none 0 0, .slice none 0 0] 28)) (by rfl) rfl ?_ ?_
     ·first | (go_simp; done) | (go_simp; rfl)
     have hba : Below w9.heap.size w9 (w9.alloc (.cells #[.slice none 0 0, .slice none 0 0, .slice none 0 0] 28)) := below_new _ _
     have KT16 : Aside0 ((w9.alloc (.cells #[.slice none 0 0, .slice none 0 0, .slice none 0 0] 28)).heap[w9.heap.size]? = some (.cells #[.slice none 0 0, .slice none 0 0, .slice none 0 0] 28 (0, 0))) := ⟨blk_new _ _⟩
     have HB16 := Aside0.mk (below_step HB9.out hba)
     have KG16 := Aside0.mk ((hba.block _ (blk_lt KG9.out)).trans KG9.out)
     have KC16 := Aside0.mk ((hba.block _ (blk_lt KC9.out)).trans KC9.out)
     have HME16 := Aside0.mk (HME9.out.below hba)
     have KI16 := Aside0.mk ((hba.block _ (blk_lt KI9.out)).trans KI9.out)
     have HMP16 := Aside0.mk (HMP9.out.below hba)
     have HMY16 := Aside0.mk (HMY9.out.below hba)
     have HMZ16 := Aside0.mk (HMZ9.out.below hba)
     have KX16 := Aside0.mk ((hba.block _ (blk_lt KX9.out)).trans KX9.out)
     clear HB9 KG9 KC9 HME9 KI9 HMP9 HMY9 HMZ9 KX9 hba
     generalize (w9.alloc (.cells #[.slice none 0 0, .slice none 0 0, .slice none 0 0] 28)) = w16 at HB16 KG16 KC16 HME16 KI16 HMP16 HMY16 HMZ16 KX16 KT16 ⊢
     refine hK.out _ _ ⟨(blk_cell KX16.out 0).trans rfl, (blk_cell KX16.out 1).trans rfl, (blk_cell KX16.out 2).trans rfl, (blk_cell KC16.out 0).trans rfl, (blk_cell KC16.out 1).trans rfl, (blk_cell KC16.out 2).trans rfl⟩ (fun hHeld => ?_)
     clear hK K
     refine norm_ (a' := ?_) ?_ ?_
     rotate_left
     ·show Act.put _ (some 9) _ = _
      simp only [Act.put, List.setIfInBounds_toArray, List.set_cons_zero, List.set_cons_succ, i64_w, i32_w]
      rfl
     refine one_ (i := 2) (N := some 81) #[true, true, true, true, true, false, true, true, false, true, false] rfl rfl (one_of HT_.out (by kernel_rfl)) (by decide) (fun K hK => ?_)
     have HLS : Aside0 (go < w16.heap.size ∧ gP < w16.heap.size ∧ gY < w16.heap.size ∧ gZ < w16.heap.size) := ⟨HME16.out.blk, HMP16.out.blk, HMY16.out.blk, HMZ16.out.blk⟩
     refine Kd.R_lit_step (Kd.int .i64) _ 3 ?hg (N := 81) ?hd (xs := ([] : List Int)) (inner := []) (ok := fun _ => True) (okp := fun _ => True) ?hr ?hp (fun _ hk => hk) trivial (Below.refl _ _) (Nat.le_refl _) (by simp) ?_
     case hd => rfl
     case hg => rfl
     case hr => first | (go_simp; done) | (go_simp; rfl)
     case hp => exact Reps.none _ _
     intro v81 w17 ho hb hg_ hnew
     have HN : Aside0 (∀ k, k < w16.heap.size → some k ≠ v81.ownBlock) := ⟨fun k hk he => by obtain ⟨b, h1, h2⟩ := hnew; rw [h1] at he; cases he; omega⟩
     have HO17 := Aside0.mk (Kd.R_lower ho HB16.out.size)
     clear ho hg_ hnew
     have HB17 := Aside0.mk (below_step HB16.out hb)
     have KG17 := Aside0.mk ((hb.block _ (blk_lt KG16.out)).trans KG16.out)
     have KC17 := Aside0.mk ((hb.block _ (blk_lt KC16.out)).trans KC16.out)
     have HME17 := Aside0.mk (HME16.out.below hb)
     have KI17 := Aside0.mk ((hb.block _ (blk_lt KI16.out)).trans KI16.out)
     have HMP17 := Aside0.mk (HMP16.out.below hb)
     have HMY17 := Aside0.mk (HMY16.out.below hb)
     have HMZ17 := Aside0.mk (HMZ16.out.below hb)
     have KX17 := Aside0.mk ((hb.block _ (blk_lt KX16.out)).trans KX16.out)
     have KT17 := Aside0.mk ((hb.block _ (blk_lt KT16.out)).trans KT16.out)
     clear HB16 KG16 KC16 HME16 KI16 HMP16 HMY16 HMZ16 KX16 KT16 hb
     refine hK.out _ _ ⟨(blk_cell KX17.out 0).trans rfl, (blk_cell KX17.out 1).trans rfl, (blk_cell KX17.out 2).trans rfl, (blk_cell KC17.out 0).trans rfl, (blk_cell KC17.out 1).trans rfl, (blk_cell KC17.out 2).trans rfl⟩ (fun hHeld => ?_)
     clear hK K
     refine norm_ (a' := ?_) ?_ ?_
     rotate_left
     ·show Act.put _ (some 81) _ = _
      simp only [Act.put, List.setIfInBounds_toArray, List.set_cons_zero, List.set_cons_succ, i64_w, i32_w]
      rfl
     refine one_ (i := 5) (N := some 84) #[true, true, true, true, true, true, true, true, false, true, false] rfl rfl (one_of HT_.out (by kernel_rfl)) (by decide) (fun K hK => ?_)
     refine Kd.R_append_rows_step (Kd.int .i64) (w0 := w) w.heap.size ?hw (.tmp 81) (.tmp 83) 26 3 (.int .i64 0) 8 rfl Try.underlying26 info3 rfl (by decide) (by omega) v81 [] L _ _ _ (fun _ => True) (fun _ => False) rfl rfl ?aO ?aR (fun _ _ h => h) (fun _ h => h.elim) ?aF ?aB ?aS ?aL ?_
     case hw => rfl
     case aR => exact HMY17.out.reads
     case aB => exact HB17.out
     case aF => exact (fun _ _ => trivial)
     case aO => exact HO17.out
     case aS => exact HB17.out.size
     case aL => simp; omega
     intro v84 w18 ho hb hg hat
     have HB18 := Aside0.mk hb
     have KG18 := Aside0.mk (blk_grown KG17.out hg (Kd.R_ne HO17.out KG17.out (by decide)))
     have KC18 := Aside0.mk (blk_grown KC17.out hg (Kd.R_ne HO17.out KC17.out (by decide)))
     have HME18 := Aside0.mk (edges_step HME17.out (hg.block _ HME17.out.blk (HN.out _ HLS.out.1)))
     have KI18 := Aside0.mk (blk_grown KI17.out hg (Kd.R_ne HO17.out KI17.out (by decide)))
     have HMP18 := Aside0.mk (pairs_step HMP17.out (hg.block _ HMP17.out.blk (HN.out _ HLS.out.2.1)))
     have HMY18 := Aside0.mk (ints_step HMY17.out (hg.block _ HMY17.out.blk (HN.out _ HLS.out.2.2.1)))
     have HMZ18 := Aside0.mk (ints_step HMZ17.out (hg.block _ HMZ17.out.blk (HN.out _ HLS.out.2.2.2)))
     have KX18 := Aside0.mk (blk_grown KX17.out hg (Kd.R_ne HO17.out KX17.out (by decide)))
     have KT18 := Aside0.mk (blk_grown KT17.out hg (Kd.R_ne HO17.out KT17.out (by decide)))
     have HO18 : Aside0 (Kd.R (Kd.int .i64) 3 w18 w.heap.size (fun _ => True) v84 L) := ⟨ho⟩
     clear ho hb hg hat HB17 KG17 KC17 HME17 KI17 HMP17 HMY17 HMZ17 KX17 KT17 HO17
     obtain ⟨A8, c8, e8⟩ := Kd.R_slice HO18.out
     subst e8
     refine hK.out _ _ ⟨(blk_cell KX18.out 0).trans rfl, (blk_cell KX18.out 1).trans rfl, (blk_cell KX18.out 2).trans rfl, (blk_cell KC18.out 0).trans rfl, (blk_cell KC18.out 1).trans rfl, (blk_cell KC18.out 2).trans rfl⟩ (fun hHeld => ?_)
     clear hK K
     refine norm_ (a' := ?_) ?_ ?_
     rotate_left
     ·show Act.put _ (some 84) _ = _
      simp only [Act.put, List.setIfInBounds_toArray, List.set_cons_zero, List.set_cons_succ, i64_w, i32_w]
      rfl
     refine pure_ (i := 8) (N := some 87) (v := ?_) (a' := ?_) #[true, true, true, true, true, true, true, true, true, true, false] rfl rfl (any_of HT_.out (by kernel_rfl)) (fun _ _ _ h => h) (Or.inl ⟨by rfl, ?_⟩) ?_ ?_
     rotate_left
     ·intro w'
      go_simp
      with_reducible rfl
     rotate_left
     ·simp only [Act.put, List.setIfInBounds_toArray, List.set_cons_zero, List.set_cons_succ, i64_w, i32_w]
      rfl
     exact norm_ (by first | (simp only [putAll, Act.put, List.setIfInBounds_toArray, List.set_cons_zero, List.set_cons_succ]; done) | (simp only [putAll, Act.put, List.setIfInBounds_toArray, List.set_cons_zero, List.set_cons_succ]; rfl)) (hJ (v81, A8, c8, w9.heap.size) _ ⟨HGT.out, HKL.out, HB18, KG18, KC18, HME18, KI18, HMP18, HMY18, HMZ18, KX18, KT18, HO18⟩)
   | succ k =>
    have hjl : (j : Int) < ((ys.length / 2 : Nat) : Int) := by have := HJ.out; omega
    go_wp2_with fail
    clear KXc0 KXc1 KXc2
    obtain ⟨kk, hkk⟩ : ∃ kk : Nat, (L.length : Int) - 1 - (j : Int) = (kk : Int) := ⟨L.length - 1 - j, by have := HL.out.1; omega⟩
    rw [hkk]
    have hjn : j < L.length := by have := HL.out.1; omega
    have hkn : kk < L.length := by omega
    have hji : (j : Int) < L.length := by omega
    have hki : (kk : Int) < L.length := by omega
    have hjk : j ≠ kk := by have := HL.out.1; omega
    have n_b : w.heap.size ≤ gY := by have := HGY.out; have := HGK.out; have := HS12.out; omega
    have n_g : w.heap.size ≠ gY := by have := HGY.out; have := HGK.out; have := HS12.out; omega
    have n_c : w.heap.size + 1 ≠ gY := by have := HGY.out; have := HGK.out; have := HS12.out; omega
    have n_i : w2.heap.size ≠ gY := by have := HGY.out; omega
    have n_x : w3.heap.size ≠ gY := by have := HGY.out; omega
    have n_e : go ≠ gY := by have := HGY.out; have := HGO.out; omega
    have n_p : gP ≠ gY := HNE.out.1
    have n_z : gZ ≠ gY := fun e => HNE.out.2.2 e.symm
    have hbd : Below wr.heap.size wr wr.drew := below_drew1 (Below.refl _ _)
    have HB19 := Aside0.mk (below_step HBr.out hbd)
    have KG19 := Aside0.mk ((hbd.block _ (blk_lt KGr.out)).trans KGr.out)
    have KC19 := Aside0.mk ((hbd.block _ (blk_lt KCr.out)).trans KCr.out)
    have HME19 := Aside0.mk (HMEr.out.below hbd)
    have KI19 := Aside0.mk ((hbd.block _ (blk_lt KIr.out)).trans KIr.out)
    have HMP19 := Aside0.mk (HMPr.out.below hbd)
    have HMY19 := Aside0.mk (HMYr.out.below hbd)
    have HMZ19 := Aside0.mk (HMZr.out.below hbd)
    have KX19 := Aside0.mk ((hbd.block _ (blk_lt KXr.out)).trans KXr.out)
    clear HBr KGr KCr HMEr KIr HMPr HMYr HMZr KXr hbd
    refine start_ (n := 20) (S := fun w' => w'.cell? ⟨w3.heap.size, 0, none⟩ = some (.slice (some ⟨gP, 0, none⟩) ps.length cP) ∧ w'.cell? ⟨w3.heap.size, 1, none⟩ = some (.slice (some ⟨gY, 0, none⟩) L.length cY) ∧ w'.cell? ⟨w3.heap.size, 2, none⟩ = some (.slice (some ⟨gZ, 0, none⟩) zs.length cZ)) (ds := []) #[false, false, false, false, false, false, false, false, false, false, false, false, false, false, false, false, false, false, false, false] (by kernel_rfl) rfl rfl ⟨(blk_cell KX19.out 0).trans rfl, (blk_cell KX19.out 1).trans rfl, (blk_cell KX19.out 2).trans rfl⟩ (fun hHeld => ?_)
    refine with_tabW certChecks_tab11 certChecks_bits11 (fun HT_ HW_ => ?_)
    generalize wr.drew = w19 at HB19 KG19 KC19 HME19 KI19 HMP19 HMY19 HMZ19 KX19 hHeld ⊢
    refine pure_ (i := 0) (N := some 61) (v := ?_) (a' := ?_) #[true, false, false, false, false, false, false, false, false, false, false, false, false, false, false, false, false, false, false, false] rfl rfl (any_of HT_.out (by kernel_rfl)) (fun _ _ _ h => h) (Or.inl ⟨by rfl, ?_⟩) ?_ ?_
    rotate_left
    ·intro w'
     go_simp
     with_reducible rfl
    rotate_left
    ·simp only [Act.put, List.setIfInBounds_toArray, List.set_cons_zero, List.set_cons_succ, i64_w, i32_w]
     rfl
    refine pure_ (i := 2) (N := some 63) (v := ?_) (a' := ?_) #[true, false, true, false, false, false, false, false, false, false, false, false, false, false, false, false, false, false, false, false] rfl rfl (any_of HT_.out (by kernel_rfl)) (fun _ _ _ h => h) (Or.inl ⟨by rfl, ?_⟩) ?_ ?_
    rotate_left
    ·intro w'
     go_simp
     with_reducible rfl
    rotate_left
    ·simp only [Act.put, List.setIfInBounds_toArray, List.set_cons_zero, List.set_cons_succ, i64_w, i32_w]
     rfl
    refine pure_ (i := 3) (N := some 64) (v := ?_) (a' := ?_) #[true, false, true, true, false, false, false, false, false, false, false, false, false, false, false, false, false, false, false, false] rfl rfl (any_of HT_.out (by kernel_rfl)) (fun _ _ _ h => h) (Or.inl ⟨by rfl, ?_⟩) ?_ ?_
    rotate_left
    ·intro w'
     go_simp
     with_reducible rfl
    rotate_left
    ·simp only [Act.put, List.setIfInBounds_toArray, List.set_cons_zero, List.set_cons_succ, i64_w, i32_w]
     rfl
    refine pure_ (i := 5) (N := some 66) (v := ?_) (a' := ?_) #[true, false, true, true, false, true, false, false, false, false, false, false, false, false, false, false, false, false, false, false] rfl rfl (any_of HT_.out (by kernel_rfl)) (fun _ _ _ h => h) (Or.inl ⟨by rfl, ?_⟩) ?_ ?_
    rotate_left
    ·intro w'
     go_simp
     with_reducible rfl
    rotate_left
    ·simp only [Act.put, List.setIfInBounds_toArray, List.set_cons_zero, List.set_cons_succ, i64_w, i32_w]
     rfl
    refine pure_ (i := 6) (N := some 67) (v := ?_) (a' := ?_) #[true, false, true, true, false, true, true, false, false, false, false, false, false, false, false, false, false, false, false, false] rfl rfl (any_of HT_.out (by kernel_rfl)) (fun _ _ _ h => h) (Or.inl ⟨by rfl, ?_⟩) ?_ ?_
    rotate_left
    ·intro w'
     go_simp
     with_reducible rfl
    rotate_left
    ·simp only [Act.put, List.setIfInBounds_toArray, List.set_cons_zero, List.set_cons_succ, i64_w, i32_w]
     rfl
    refine pure_ (i := 8) (N := some 69) (v := ?_) (a' := ?_) #[true, false, true, true, false, true, true, false, true, false, false, false, false, false, false, false, false, false, false, false] rfl rfl (any_of HT_.out (by kernel_rfl)) (fun _ _ _ h => h) (Or.inl ⟨by rfl, ?_⟩) ?_ ?_
    rotate_left
    ·intro w'
     go_simp
     with_reducible rfl
    rotate_left
    ·simp only [Act.put, List.setIfInBounds_toArray, List.set_cons_zero, List.set_cons_succ, i64_w, i32_w]
     rfl
    refine pure_ (i := 11) (N := some 72) (v := ?_) (a' := ?_) #[true, false, true, true, false, true, true, false, true, false, false, true, false, false, false, false, false, false, false, false] rfl rfl (any_of HT_.out (by kernel_rfl)) (fun _ _ _ h => h) (Or.inl ⟨by rfl, ?_⟩) ?_ ?_
    rotate_left
    ·intro w'
     go_simp
     with_reducible rfl
    rotate_left
    ·simp only [Act.put, List.setIfInBounds_toArray, List.set_cons_zero, List.set_cons_succ, i64_w, i32_w]
     rfl
    refine pure_ (i := 13) (N := some 74) (v := ?_) (a' := ?_) #[true, false, true, true, false, true, true, false, true, false, false, true, false, true, false, false, false, false, false, false] rfl rfl (any_of HT_.out (by kernel_rfl)) (fun _ _ _ h => h) (Or.inl ⟨by rfl, ?_⟩) ?_ ?_
    rotate_left
    ·intro w'
     go_simp
     with_reducible rfl
    rotate_left
    ·simp only [Act.put, List.setIfInBounds_toArray, List.set_cons_zero, List.set_cons_succ, i64_w, i32_w]
     rfl
    refine take_ (i := 1) (N := some 62) (v := ?_) (a' := ?_) #[true, true, true, true, false, true, true, false, true, false, false, true, false, true, false, false, false, false, false, false] rfl rfl (take_ofW HT_.out HW_.out (by kernel_rfl)) (fun _ _ _ h => h) (Or.inl ⟨by rfl, ?_⟩) hHeld ?_ ?_
    rotate_left
    ·rintro w' ⟨s0, s1, s2⟩
     go_simp
     with_reducible rfl
    rotate_left
    ·simp only [Act.put, List.setIfInBounds_toArray, List.set_cons_zero, List.set_cons_succ, i64_w, i32_w]
     rfl
    refine take_ (i := 4) (N := some 65) (v := ?_) (a' := ?_) #[true, true, true, true, true, true, true, false, true, false, false, true, false, true, false, false, false, false, false, false] rfl rfl (take_ofW HT_.out HW_.out (by kernel_rfl)) (fun _ _ _ h => h) (Or.inl ⟨by rfl, ?_⟩) hHeld ?_ ?_
    rotate_left
    ·rintro w' ⟨s0, s1, s2⟩
     go_simp
     with_reducible rfl
    rotate_left
    ·simp only [Act.put, List.setIfInBounds_toArray, List.set_cons_zero, List.set_cons_succ, i64_w, i32_w]
     rfl
    refine take_ (i := 7) (N := some 68) (v := ?_) (a' := ?_) #[true, true, true, true, true, true, true, true, true, false, false, true, false, true, false, false, false, false, false, false] rfl rfl (take_ofW HT_.out HW_.out (by kernel_rfl)) (fun _ _ _ h => h) (Or.inl ⟨by rfl, ?_⟩) hHeld ?_ ?_
    rotate_left
    ·rintro w' ⟨s0, s1, s2⟩
     go_simp
     with_reducible rfl
    rotate_left
    ·simp only [Act.put, List.setIfInBounds_toArray, List.set_cons_zero, List.set_cons_succ, i64_w, i32_w]
     rfl
    refine take_ (i := 12) (N := some 73) (v := ?_) (a' := ?_) #[true, true, true, true, true, true, true, true, true, false, false, true, true, true, false, false, false, false, false, false] rfl rfl (take_ofW HT_.out HW_.out (by kernel_rfl)) (fun _ _ _ h => h) (Or.inl ⟨by rfl, ?_⟩) hHeld ?_ ?_
    rotate_left
    ·rintro w' ⟨s0, s1, s2⟩
     go_simp
     with_reducible rfl
    rotate_left
    ·simp only [Act.put, List.setIfInBounds_toArray, List.set_cons_zero, List.set_cons_succ, i64_w, i32_w]
     rfl
    refine pure_ (i := 9) (N := some 70) (v := ?_) (a' := ?_) #[true, true, true, true, true, true, true, true, true, true, false, true, true, true, false, false, false, false, false, false] rfl rfl (any_of HT_.out (by kernel_rfl)) (fun _ _ _ h => h) (Or.inl ⟨by rfl, ?_⟩) ?_ ?_
    rotate_left
    ·intro w'
     go_simp
     with_reducible rfl
    rotate_left
    ·simp only [Act.put, List.setIfInBounds_toArray, List.set_cons_zero, List.set_cons_succ, i64_w, i32_w]
     rfl
    refine pure_ (i := 14) (N := some 75) (v := ?_) (a' := ?_) #[true, true, true, true, true, true, true, true, true, true, false, true, true, true, true, false, false, false, false, false] rfl rfl (any_of HT_.out (by kernel_rfl)) (fun _ _ _ h => h) (Or.inl ⟨by rfl, ?_⟩) ?_ ?_
    rotate_left
    ·intro w'
     go_simp
     with_reducible rfl
    rotate_left
    ·simp only [Act.put, List.setIfInBounds_toArray, List.set_cons_zero, List.set_cons_succ, i64_w, i32_w]
     rfl
    obtain ⟨ca, fa⟩ := ints_cell HMY19.out j hjn
    obtain ⟨cb, fb⟩ := ints_cell HMY19.out kk hkn
    obtain ⟨a, ha⟩ : ∃ a, a = rd L j := ⟨_, rfl⟩
    obtain ⟨b, hb⟩ : ∃ b, b = rd L kk := ⟨_, rfl⟩
    rw [← ha] at ca
    rw [← hb] at cb
    have HA : Aside0 (a ≤ 9223372036854775807 ∧ b ≤ 9223372036854775807) := ⟨by rw [ha]; exact i64_rd HL.out.2 j hjn, by rw [hb]; exact i64_rd HL.out.2 kk hkn⟩
    clear ha hb
    refine join_ (σ := Unit) 4 #[true, true, true, true, true, true, true, true, true, true, true, true, true, true, true, true, false, false, false, false] (fun _ => [(71, .int .i64 b), (76, .int .i64 a)]) (fun _ w' => w19 = w') ?cont (fun hJ => ?_)
    case cont =>
     rintro _ _ rfl
     refine norm_ (a' := ?_) ?_ ?_
     rotate_left
     ·simp only [putAll, Act.put, List.setIfInBounds_toArray, List.set_cons_zero, List.set_cons_succ]
      rfl
     refine pure_ (i := 16) (N := some 77) (v := ?_) (a' := ?_) #[true, true, true, true, true, true, true, true, true, true, true, true, true, true, true, true, true, false, false, false] rfl rfl (any_of HT_.out (by kernel_rfl)) (fun _ _ _ h => h) (Or.inl ⟨by rfl, ?_⟩) ?_ ?_
     rotate_left
     ·intro w'
      go_simp
      with_reducible rfl
     rotate_left
     ·simp only [Act.put, List.setIfInBounds_toArray, List.set_cons_zero, List.set_cons_succ, i64_w, i32_w]
      rfl
     refine one_ (i := 17) (N := none) #[true, true, true, true, true, true, true, true, true, true, true, true, true, true, true, true, true, true, false, false] rfl rfl (one_of HT_.out (by kernel_rfl)) (by decide) (fun K hK => ?_)
     refine skip_ (w1 := w19.setCell ⟨gY, j, none⟩ (.int .i64 b)) (by rfl) rfl ?_ ?_
     ·first | (go_simp; done) | (go_simp; rfl)
     clear ca fa cb fb
     have hs : ∀ k, k ≠ gY → (w19.setCell ⟨gY, j, none⟩ (.int .i64 b)).heap[k]? = w19.heap[k]? := fun k hk => Below.heap_setCell _ _ _ k hk
     have HB20 : Aside0 (Below w.heap.size w (w19.setCell ⟨gY, j, none⟩ (.int .i64 b))) := ⟨below_set HB19.out n_b⟩
     have KG20 := Aside0.mk ((hs _ n_g).trans KG19.out)
     have KC20 := Aside0.mk ((hs _ n_c).trans KC19.out)
     have HME20 := Aside0.mk (edges_step HME19.out (hs _ n_e))
     have KI20 := Aside0.mk ((hs _ n_i).trans KI19.out)
     have HMP20 := Aside0.mk (pairs_step HMP19.out (hs _ n_p))
     have HMY20 := Aside0.mk (ints_put HMY19.out j hjn b)
     have HMZ20 := Aside0.mk (ints_step HMZ19.out (hs _ n_z))
     have KX20 := Aside0.mk ((hs _ n_x).trans KX19.out)
     clear hs HB19 KG19 KC19 HME19 KI19 HMP19 HMY19 HMZ19 KX19
     generalize (w19.setCell ⟨gY, j, none⟩ (.int .i64 b)) = w20 at HB20 KG20 KC20 HME20 KI20 HMP20 HMY20 HMZ20 KX20 ⊢
     refine hK.out _ _ ⟨(blk_cell KX20.out 0).trans rfl, (blk_cell KX20.out 1).trans rfl, (blk_cell KX20.out 2).trans rfl⟩ (fun hHeld => ?_)
     clear hK K
     refine pure_ (i := 18) (N := some 78) (v := ?_) (a' := ?_) #[true, true, true, true, true, true, true, true, true, true, true, true, true, true, true, true, true, true, true, false] rfl rfl (any_of HT_.out (by kernel_rfl)) (fun _ _ _ h => h) (Or.inl ⟨by rfl, ?_⟩) ?_ ?_
     rotate_left
     ·intro w'
      go_simp
      with_reducible rfl
     rotate_left
     ·simp only [Act.put, List.setIfInBounds_toArray, List.set_cons_zero, List.set_cons_succ, i64_w, i32_w]
      rfl
     refine one_ (i := 19) (N := none) #[true, true, true, true, true, true, true, true, true, true, true, true, true, true, true, true, true, true, true, true] rfl rfl (one_of HT_.out (by kernel_rfl)) (by decide) (fun K hK => ?_)
     obtain ⟨cb, fb⟩ := ints_cell HMY20.out kk (by rw [List.length_set]; exact hkn)
     refine skip_ (w1 := w20.setCell ⟨gY, kk, none⟩ (.int .i64 a)) (by rfl) rfl ?_ ?_
     ·first | (go_simp; done) | (go_simp; rfl)
     clear cb fb
     have hs : ∀ k, k ≠ gY → (w20.setCell ⟨gY, kk, none⟩ (.int .i64 a)).heap[k]? = w20.heap[k]? := fun k hk => Below.heap_setCell _ _ _ k hk
     have HB21 : Aside0 (Below w.heap.size w (w20.setCell ⟨gY, kk, none⟩ (.int .i64 a))) := ⟨below_set HB20.out n_b⟩
     have KG21 := Aside0.mk ((hs _ n_g).trans KG20.out)
     have KC21 := Aside0.mk ((hs _ n_c).trans KC20.out)
     have HME21 := Aside0.mk (edges_step HME20.out (hs _ n_e))
     have KI21 := Aside0.mk ((hs _ n_i).trans KI20.out)
     have HMP21 := Aside0.mk (pairs_step HMP20.out (hs _ n_p))
     have HMY21 := Aside0.mk (ints_put HMY20.out kk (by rw [List.length_set]; exact hkn) a)
     have HMZ21 := Aside0.mk (ints_step HMZ20.out (hs _ n_z))
     have KX21 := Aside0.mk ((hs _ n_x).trans KX20.out)
     clear hs HB20 KG20 KC20 HME20 KI20 HMP20 HMY20 HMZ20 KX20
     generalize (w20.setCell ⟨gY, kk, none⟩ (.int .i64 a)) = w21 at HB21 KG21 KC21 HME21 KI21 HMP21 HMY21 HMZ21 KX21 ⊢
     refine hK.out _ _ ⟨(blk_cell KX21.out 0).trans rfl, (blk_cell KX21.out 1).trans rfl, (blk_cell KX21.out 2).trans rfl⟩ (fun hHeld => ?_)
     clear hK K
     refine done_ (done_of HT_.out (by kernel_rfl)) ?_
     clear hHeld HT_ HW_
     go_wp2
     go_roundg k
     case measure => omega
     case rel => exact ⟨j + 1, (L.set j b).set kk a, by first | rfl | simp, ⟨by have := HJ.out; omega⟩, ⟨by rw [List.length_set, List.length_set]; exact HL.out.1, i64_set (i64_set HL.out.2 j HA.out.2) kk HA.out.1⟩, HB21, KG21, KC21, HME21, KI21, HMP21, HMY21, HMZ21, ⟨by rw [List.length_set, List.length_set]; exact KX21.out⟩⟩
    refine two_ (i := 10) (j := 15) (Ni := some 71) (Nj := some 76) #[true, true, true, true, true, true, true, true, true, true, true, true, true, true, true, false, false, false, false, false] #[true, true, true, true, true, true, true, true, true, true, false, true, true, true, true, true, false, false, false, false] rfl rfl rfl rfl (two_of HT_.out (by kernel_rfl)) (by decide) (by decide) (fun K hK => ?_) (fun K hK => ?_)
    ·refine value_ (v := .int .i64 b) (w1 := w19) (by rfl) rfl ?_ ?_
     ·first | (go_simp; done) | (go_simp; rfl)
     refine hK.out _ _ ⟨(blk_cell KX19.out 0).trans rfl, (blk_cell KX19.out 1).trans rfl, (blk_cell KX19.out 2).trans rfl⟩ (fun hHeld => ?_)
     clear hK K
     refine norm_ (a' := ?_) ?_ ?_
     rotate_left
     ·show Act.put _ (some 71) _ = _
      simp only [Act.put, List.setIfInBounds_toArray, List.set_cons_zero, List.set_cons_succ, i64_w, i32_w]
      rfl
     refine one_ (i := 15) (N := some 76) #[true, true, true, true, true, true, true, true, true, true, true, true, true, true, true, true, false, false, false, false] rfl rfl (one_of HT_.out (by kernel_rfl)) (by decide) (fun K hK => ?_)
     refine value_ (v := .int .i64 a) (w1 := w19) (by rfl) rfl ?_ ?_
     ·first | (go_simp; done) | (go_simp; rfl)
     refine hK.out _ _ ⟨(blk_cell KX19.out 0).trans rfl, (blk_cell KX19.out 1).trans rfl, (blk_cell KX19.out 2).trans rfl⟩ (fun hHeld => ?_)
     clear hK K
     refine norm_ (a' := ?_) ?_ ?_
     rotate_left
     ·show Act.put _ (some 76) _ = _
      simp only [Act.put, List.setIfInBounds_toArray, List.set_cons_zero, List.set_cons_succ, i64_w, i32_w]
      rfl
     exact norm_ (by first | (simp only [putAll, Act.put, List.setIfInBounds_toArray, List.set_cons_zero, List.set_cons_succ]; done) | (simp only [putAll, Act.put, List.setIfInBounds_toArray, List.set_cons_zero, List.set_cons_succ]; rfl)) (hJ () _ rfl)
    ·refine value_ (v := .int .i64 a) (w1 := w19) (by rfl) rfl ?_ ?_
     ·first | (go_simp; done) | (go_simp; rfl)
     refine hK.out _ _ ⟨(blk_cell KX19.out 0).trans rfl, (blk_cell KX19.out 1).trans rfl, (blk_cell KX19.out 2).trans rfl⟩ (fun hHeld => ?_)
     clear hK K
     refine norm_ (a' := ?_) ?_ ?_
     rotate_left
     ·show Act.put _ (some 76) _ = _
      simp only [Act.put, List.setIfInBounds_toArray, List.set_cons_zero, List.set_cons_succ, i64_w, i32_w]
      rfl
     refine one_ (i := 10) (N := some 71) #[true, true, true, true, true, true, true, true, true, true, true, true, true, true, true, true, false, false, false, false] rfl rfl (one_of HT_.out (by kernel_rfl)) (by decide) (fun K hK => ?_)
     refine value_ (v := .int .i64 b) (w1 := w19) (by rfl) rfl ?_ ?_
     ·first | (go_simp; done) | (go_simp; rfl)
     refine hK.out _ _ ⟨(blk_cell KX19.out 0).trans rfl, (blk_cell KX19.out 1).trans rfl, (blk_cell KX19.out 2).trans rfl⟩ (fun hHeld => ?_)
     clear hK K
     refine norm_ (a' := ?_) ?_ ?_
     rotate_left
     ·show Act.put _ (some 71) _ = _
      simp only [Act.put, List.setIfInBounds_toArray, List.set_cons_zero, List.set_cons_succ, i64_w, i32_w]
      rfl
     exact norm_ (by first | (simp only [putAll, Act.put, List.setIfInBounds_toArray, List.set_cons_zero, List.set_cons_succ]; done) | (simp only [putAll, Act.put, List.setIfInBounds_toArray, List.set_cons_zero, List.set_cons_succ]; rfl)) (hJ () _ rfl)
end Go.Proofs.Ytmdidgdcdlodlaa.Q
