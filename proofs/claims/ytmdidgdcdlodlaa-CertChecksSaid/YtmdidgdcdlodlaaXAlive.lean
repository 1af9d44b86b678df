/- The law's own example, walked with the contracts of the calls. No condition. Written in this session. -/
import Derived.Test.YtmdidgdcdlodlaaA3
import Derived.Test.YtmdidgdcdlodlaaQ10
import Derived.Test.YtmdidgdcdlodlaaQ11
import Derived.Test.YtmdidgdcdlodlaaQ12
namespace Go.Proofs.Ytmdidgdcdlodlaa.Q
open Go.RowKit Go.Proofs.YtmdidgdcdlodlaaW.PrintWords Go.Proofs.YtmdidgdcdlodlaaW.PrintLast Go.Proofs.YtmdidgdcdlodlaaW.PrintMore
set_option linter.unusedVariables false
set_option linter.unusedSimpArgs false
theorem pairs_at {w : World} {g : Nat} {a b : Int} {t : TypeId} {fr : Nat × Nat} (h : w.heap[g]? = some (.cells #[.int .i64 a, .int .i64 b] t fr)) : Kd.C k50 w (some ⟨g, 0, none⟩) 1 [(⟨a, b⟩ : S50)] := by
  refine ⟨rfl, by decide, fun _ => ⟨_, rfl, fun j p hj => ?_⟩⟩
  have h0 : j = 0 := by
    have := (List.getElem?_eq_some_iff.1 hj).1
    simpa using this
  subst h0
  cases hj
  refine ⟨[.int .i64 a, .int .i64 b], rfl, ⟨_, _, rfl, rfl, rfl⟩, fun i u hu => ?_⟩
  rw [add_plain, cell_of_row w g _ _ t fr h]
  have : 0 * k50.sz + i = i := by omega
  rw [this]
  simpa using hu
theorem at1 (w : World) (a b : Obj) : ((w.alloc a).alloc b).heap[w.heap.size + 1]? = some b := by
  have := blk_new (w.alloc a) b
  rwa [World.size_alloc] at this
theorem at2 (w : World) (a b c : Obj) : (((w.alloc a).alloc b).alloc c).heap[w.heap.size + 1 + 1]? = some c := by
  have := blk_new ((w.alloc a).alloc b) c
  rwa [World.size_alloc, World.size_alloc] at this
theorem at3 (w : World) (a b c d : Obj) : ((((w.alloc a).alloc b).alloc c).alloc d).heap[w.heap.size + 1 + 1 + 1]? = some d := by
  have := blk_new (((w.alloc a).alloc b).alloc c) d
  rwa [World.size_alloc, World.size_alloc, World.size_alloc] at this
set_option maxHeartbeats 8000000 in
set_option maxRecDepth 100000 in
theorem alive_walk (w : World) : Calls Try.prog 17 #[] w fun e w' => e = .returned (.bool true) ∧ Below w.heap.size w w' := by
  go_enter Try.func17, Try.ntmps17
  go_wp2_with fail
  refine (cabstandlaw18_example.calls 2 1 [(⟨0, 0, 13⟩ : S69), (⟨1, 0, 18⟩ : S69)] w rfl).mono ?_
  rintro e w1 ⟨v, rfl, hr, hb⟩
  obtain ⟨A, c, rfl⟩ := Kd.R_slice hr
  have HC := Aside0.mk (Kd.R_reads' hr).2.2
  have HL := Aside0.mk (Kd.R_reads' hr).2.1
  have HB1 := Aside0.mk hb
  clear hb hr
  go_wp2_with fail
  have HE := Aside0.mk (show Kd.C k69 ((((w1.alloc (.cells #[.int .i64 2, .int .i64 1, .slice A 2 c] 24)).alloc (.cells #[.int .i64 1, .int .i64 0] 50)).alloc (.cells #[.int .i64 0, .int .i64 5] 3)).alloc (.cells #[.int .i64 13] 3)) A 2 [(⟨0, 0, 13⟩ : S69), (⟨1, 0, 18⟩ : S69)] from Kd.C_alloc (Kd.C_alloc (Kd.C_alloc (Kd.C_alloc HC.out _) _) _) _)
  have HP := Aside0.mk (show Kd.C k50 ((((w1.alloc (.cells #[.int .i64 2, .int .i64 1, .slice A 2 c] 24)).alloc (.cells #[.int .i64 1, .int .i64 0] 50)).alloc (.cells #[.int .i64 0, .int .i64 5] 3)).alloc (.cells #[.int .i64 13] 3)) (some ⟨w1.heap.size + 1, 0, none⟩) 1 [(⟨1, 0⟩ : S50)] from pairs_at (blk_alloc (blk_alloc (at1 w1 _ _) _) _))
  have HY := Aside0.mk (show Kd.C (Kd.int .i64) ((((w1.alloc (.cells #[.int .i64 2, .int .i64 1, .slice A 2 c] 24)).alloc (.cells #[.int .i64 1, .int .i64 0] 50)).alloc (.cells #[.int .i64 0, .int .i64 5] 3)).alloc (.cells #[.int .i64 13] 3)) (some ⟨w1.heap.size + 1 + 1, 0, none⟩) 2 [0, 5] from ints_at (blk_alloc (at2 w1 _ _ _) _) (by decide))
  have HZ := Aside0.mk (show Kd.C (Kd.int .i64) ((((w1.alloc (.cells #[.int .i64 2, .int .i64 1, .slice A 2 c] 24)).alloc (.cells #[.int .i64 1, .int .i64 0] 50)).alloc (.cells #[.int .i64 0, .int .i64 5] 3)).alloc (.cells #[.int .i64 13] 3)) (some ⟨w1.heap.size + 1 + 1 + 1, 0, none⟩) 1 [13] from ints_at (at3 w1 _ _ _ _) (by decide))
  have HG := Aside0.mk (show (((((w1.alloc (.cells #[.int .i64 2, .int .i64 1, .slice A 2 c] 24)).alloc (.cells #[.int .i64 1, .int .i64 0] 50)).alloc (.cells #[.int .i64 0, .int .i64 5] 3)).alloc (.cells #[.int .i64 13] 3))).heap[w1.heap.size]? = some (.cells #[.int .i64 2, .int .i64 1, .slice A 2 c] 24 (0, 0)) from blk_alloc (blk_alloc (blk_alloc (blk_new w1 _) _) _) _)
  have HB := Aside0.mk (below_alloc (below_alloc (below_alloc (below_alloc HB1.out (.cells #[.int .i64 2, .int .i64 1, .slice A 2 c] 24)) (.cells #[.int .i64 1, .int .i64 0] 50)) (.cells #[.int .i64 0, .int .i64 5] 3)) (.cells #[.int .i64 13] 3))
  generalize ((((w1.alloc (.cells #[.int .i64 2, .int .i64 1, .slice A 2 c] 24)).alloc (.cells #[.int .i64 1, .int .i64 0] 50)).alloc (.cells #[.int .i64 0, .int .i64 5] 3)).alloc (.cells #[.int .i64 13] 3)) = w2 at HE HP HY HZ HG HB ⊢
  clear HC HB1
  refine (cert_Bound.calls 2 1 A c [(⟨0, 0, 13⟩ : S69), (⟨1, 0, 18⟩ : S69)] _ 2 [0, 5] _ 1 [13] 18 0 w2 HE.out HL.out HY.out (by decide) HZ.out (by decide) (by decide +kernel)).mono ?_
  rintro e w3 ⟨rfl, hb⟩
  have n0_ := Aside0.mk (Kd.C_below HE.out hb)
  have n1_ := Aside0.mk (Kd.C_below HP.out hb)
  have n2_ := Aside0.mk ((hb.block _ (blk_lt HG.out)).trans HG.out)
  have n3_ := Aside0.mk (below_step HB.out hb)
  clear hb HE HP HG HB HY HZ
  have HE := n0_
  have HP := n1_
  have HG := n2_
  have HB := n3_
  clear n0_ n1_ n2_ n3_
  have gc0 : w3.cell? ⟨w1.heap.size, 0, none⟩ = some (.int .i64 2) := (blk_cell HG.out 0).trans rfl
  have gc1 : w3.cell? ⟨w1.heap.size, 1, none⟩ = some (.int .i64 1) := (blk_cell HG.out 1).trans rfl
  have gc2 : w3.cell? ⟨w1.heap.size, 2, none⟩ = some (.slice A 2 c) := (blk_cell HG.out 2).trans rfl
  go_wp2_with fail
  have n0_ := Aside0.mk (show Kd.C k69 ((w3.alloc (.cells #[.int .i64 0, .int .i64 5] 3)).alloc (.cells #[.int .i64 13] 3)) A 2 [(⟨0, 0, 13⟩ : S69), (⟨1, 0, 18⟩ : S69)] from Kd.C_alloc (Kd.C_alloc HE.out _) _)
  have n1_ := Aside0.mk (show Kd.C k50 ((w3.alloc (.cells #[.int .i64 0, .int .i64 5] 3)).alloc (.cells #[.int .i64 13] 3)) (some ⟨w1.heap.size + 1, 0, none⟩) 1 [(⟨1, 0⟩ : S50)] from Kd.C_alloc (Kd.C_alloc HP.out _) _)
  have HY := Aside0.mk (show Kd.C (Kd.int .i64) ((w3.alloc (.cells #[.int .i64 0, .int .i64 5] 3)).alloc (.cells #[.int .i64 13] 3)) (some ⟨w3.heap.size, 0, none⟩) 2 [0, 5] from ints_at (blk_alloc (blk_new w3 _) _) (by decide))
  have HZ := Aside0.mk (show Kd.C (Kd.int .i64) ((w3.alloc (.cells #[.int .i64 0, .int .i64 5] 3)).alloc (.cells #[.int .i64 13] 3)) (some ⟨w3.heap.size + 1, 0, none⟩) 1 [13] from ints_at (at1 w3 _ _) (by decide))
  have n2_ := Aside0.mk (show (((w3.alloc (.cells #[.int .i64 0, .int .i64 5] 3)).alloc (.cells #[.int .i64 13] 3))).heap[w1.heap.size]? = some (.cells #[.int .i64 2, .int .i64 1, .slice A 2 c] 24 (0, 0)) from blk_alloc (blk_alloc HG.out _) _)
  have n3_ := Aside0.mk (below_alloc (below_alloc HB.out (.cells #[.int .i64 0, .int .i64 5] 3)) (.cells #[.int .i64 13] 3))
  clear HE HP HG HB gc0 gc1 gc2
  have HE := n0_
  have HP := n1_
  have HG := n2_
  have HB := n3_
  clear n0_ n1_ n2_ n3_
  generalize ((w3.alloc (.cells #[.int .i64 0, .int .i64 5] 3)).alloc (.cells #[.int .i64 13] 3)) = w4 at HE HP HY HZ HG HB ⊢
  refine (cert_Check.calls 2 1 A c [(⟨0, 0, 13⟩ : S69), (⟨1, 0, 18⟩ : S69)] _ 1 [(⟨1, 0⟩ : S50)] _ 2 [0, 5] _ 1 [13] 0 w4 HE.out HL.out HP.out (by decide) HY.out (by decide) HZ.out (by decide) (by decide +kernel)).mono ?_
  rintro e w5 ⟨rfl, hb⟩
  have n0_ := Aside0.mk (Kd.C_below HE.out hb)
  have n1_ := Aside0.mk (Kd.C_below HP.out hb)
  have n2_ := Aside0.mk ((hb.block _ (blk_lt HG.out)).trans HG.out)
  have n3_ := Aside0.mk (below_step HB.out hb)
  clear hb HE HP HG HB HY HZ
  have HE := n0_
  have HP := n1_
  have HG := n2_
  have HB := n3_
  clear n0_ n1_ n2_ n3_
  have gc0 : w5.cell? ⟨w1.heap.size, 0, none⟩ = some (.int .i64 2) := (blk_cell HG.out 0).trans rfl
  have gc1 : w5.cell? ⟨w1.heap.size, 1, none⟩ = some (.int .i64 1) := (blk_cell HG.out 1).trans rfl
  have gc2 : w5.cell? ⟨w1.heap.size, 2, none⟩ = some (.slice A 2 c) := (blk_cell HG.out 2).trans rfl
  go_wp2_with fail
  have n0_ := Aside0.mk (show Kd.C k69 ((w5.alloc (.cells #[.int .i64 5, .int .i64 0] 3)).alloc (.cells #[.int .i64 13] 3)) A 2 [(⟨0, 0, 13⟩ : S69), (⟨1, 0, 18⟩ : S69)] from Kd.C_alloc (Kd.C_alloc HE.out _) _)
  have n1_ := Aside0.mk (show Kd.C k50 ((w5.alloc (.cells #[.int .i64 5, .int .i64 0] 3)).alloc (.cells #[.int .i64 13] 3)) (some ⟨w1.heap.size + 1, 0, none⟩) 1 [(⟨1, 0⟩ : S50)] from Kd.C_alloc (Kd.C_alloc HP.out _) _)
  have HY := Aside0.mk (show Kd.C (Kd.int .i64) ((w5.alloc (.cells #[.int .i64 5, .int .i64 0] 3)).alloc (.cells #[.int .i64 13] 3)) (some ⟨w5.heap.size, 0, none⟩) 2 [5, 0] from ints_at (blk_alloc (blk_new w5 _) _) (by decide))
  have HZ := Aside0.mk (show Kd.C (Kd.int .i64) ((w5.alloc (.cells #[.int .i64 5, .int .i64 0] 3)).alloc (.cells #[.int .i64 13] 3)) (some ⟨w5.heap.size + 1, 0, none⟩) 1 [13] from ints_at (at1 w5 _ _) (by decide))
  have n2_ := Aside0.mk (show (((w5.alloc (.cells #[.int .i64 5, .int .i64 0] 3)).alloc (.cells #[.int .i64 13] 3))).heap[w1.heap.size]? = some (.cells #[.int .i64 2, .int .i64 1, .slice A 2 c] 24 (0, 0)) from blk_alloc (blk_alloc HG.out _) _)
  have n3_ := Aside0.mk (below_alloc (below_alloc HB.out (.cells #[.int .i64 5, .int .i64 0] 3)) (.cells #[.int .i64 13] 3))
  clear HE HP HG HB gc0 gc1 gc2
  have HE := n0_
  have HP := n1_
  have HG := n2_
  have HB := n3_
  clear n0_ n1_ n2_ n3_
  generalize ((w5.alloc (.cells #[.int .i64 5, .int .i64 0] 3)).alloc (.cells #[.int .i64 13] 3)) = w6 at HE HP HY HZ HG HB ⊢
  refine (cert_Check.calls 2 1 A c [(⟨0, 0, 13⟩ : S69), (⟨1, 0, 18⟩ : S69)] _ 1 [(⟨1, 0⟩ : S50)] _ 2 [5, 0] _ 1 [13] 181 w6 HE.out HL.out HP.out (by decide) HY.out (by decide) HZ.out (by decide) (by decide +kernel)).mono ?_
  rintro e w7 ⟨rfl, hb⟩
  have n0_ := Aside0.mk (Kd.C_below HE.out hb)
  have n1_ := Aside0.mk (Kd.C_below HP.out hb)
  have n2_ := Aside0.mk ((hb.block _ (blk_lt HG.out)).trans HG.out)
  have n3_ := Aside0.mk (below_step HB.out hb)
  clear hb HE HP HG HB HY HZ
  have HE := n0_
  have HP := n1_
  have HG := n2_
  have HB := n3_
  clear n0_ n1_ n2_ n3_
  have gc0 : w7.cell? ⟨w1.heap.size, 0, none⟩ = some (.int .i64 2) := (blk_cell HG.out 0).trans rfl
  have gc1 : w7.cell? ⟨w1.heap.size, 1, none⟩ = some (.int .i64 1) := (blk_cell HG.out 1).trans rfl
  have gc2 : w7.cell? ⟨w1.heap.size, 2, none⟩ = some (.slice A 2 c) := (blk_cell HG.out 2).trans rfl
  go_wp2_with fail
  have n0_ := Aside0.mk (show Kd.C k69 ((w7.alloc (.cells #[.int .i64 0, .int .i64 5] 3)).alloc (.cells #[.int .i64 13] 3)) A 2 [(⟨0, 0, 13⟩ : S69), (⟨1, 0, 18⟩ : S69)] from Kd.C_alloc (Kd.C_alloc HE.out _) _)
  have n1_ := Aside0.mk (show Kd.C k50 ((w7.alloc (.cells #[.int .i64 0, .int .i64 5] 3)).alloc (.cells #[.int .i64 13] 3)) (some ⟨w1.heap.size + 1, 0, none⟩) 1 [(⟨1, 0⟩ : S50)] from Kd.C_alloc (Kd.C_alloc HP.out _) _)
  have HY := Aside0.mk (show Kd.C (Kd.int .i64) ((w7.alloc (.cells #[.int .i64 0, .int .i64 5] 3)).alloc (.cells #[.int .i64 13] 3)) (some ⟨w7.heap.size, 0, none⟩) 2 [0, 5] from ints_at (blk_alloc (blk_new w7 _) _) (by decide))
  have HZ := Aside0.mk (show Kd.C (Kd.int .i64) ((w7.alloc (.cells #[.int .i64 0, .int .i64 5] 3)).alloc (.cells #[.int .i64 13] 3)) (some ⟨w7.heap.size + 1, 0, none⟩) 1 [13] from ints_at (at1 w7 _ _) (by decide))
  have n2_ := Aside0.mk (show (((w7.alloc (.cells #[.int .i64 0, .int .i64 5] 3)).alloc (.cells #[.int .i64 13] 3))).heap[w1.heap.size]? = some (.cells #[.int .i64 2, .int .i64 1, .slice A 2 c] 24 (0, 0)) from blk_alloc (blk_alloc HG.out _) _)
  have n3_ := Aside0.mk (below_alloc (below_alloc HB.out (.cells #[.int .i64 0, .int .i64 5] 3)) (.cells #[.int .i64 13] 3))
  clear HE HP HG HB gc0 gc1 gc2
  have HE := n0_
  have HP := n1_
  have HG := n2_
  have HB := n3_
  clear n0_ n1_ n2_ n3_
  generalize ((w7.alloc (.cells #[.int .i64 0, .int .i64 5] 3)).alloc (.cells #[.int .i64 13] 3)) = w8 at HE HP HY HZ HG HB ⊢
  refine (cert_Check.calls 2 1 A c [(⟨0, 0, 13⟩ : S69), (⟨1, 0, 18⟩ : S69)] _ 0 [] _ 2 [0, 5] _ 1 [13] 182 w8 HE.out HL.out (Kd.C_nil _ _) (Nat.le_refl _) HY.out (by decide) HZ.out (by decide) (by decide +kernel)).mono ?_
  rintro e w9 ⟨rfl, hb⟩
  have n0_ := Aside0.mk (Kd.C_below HE.out hb)
  have n1_ := Aside0.mk (Kd.C_below HP.out hb)
  have n2_ := Aside0.mk ((hb.block _ (blk_lt HG.out)).trans HG.out)
  have n3_ := Aside0.mk (below_step HB.out hb)
  clear hb HE HP HG HB HY HZ
  have HE := n0_
  have HP := n1_
  have HG := n2_
  have HB := n3_
  clear n0_ n1_ n2_ n3_
  have gc0 : w9.cell? ⟨w1.heap.size, 0, none⟩ = some (.int .i64 2) := (blk_cell HG.out 0).trans rfl
  have gc1 : w9.cell? ⟨w1.heap.size, 1, none⟩ = some (.int .i64 1) := (blk_cell HG.out 1).trans rfl
  have gc2 : w9.cell? ⟨w1.heap.size, 2, none⟩ = some (.slice A 2 c) := (blk_cell HG.out 2).trans rfl
  go_wp2_with fail
  refine (cert_Pairs.calls 2 1 A c [(⟨0, 0, 13⟩ : S69), (⟨1, 0, 18⟩ : S69)] _ 1 [(⟨1, 0⟩ : S50)] 0 w9 HE.out HL.out HP.out (by decide) (by decide +kernel)).mono ?_
  have HY := HE
  have HZ := HE
  rintro e w10 ⟨rfl, hb⟩
  have n0_ := Aside0.mk (Kd.C_below HE.out hb)
  have n1_ := Aside0.mk (Kd.C_below HP.out hb)
  have n2_ := Aside0.mk ((hb.block _ (blk_lt HG.out)).trans HG.out)
  have n3_ := Aside0.mk (below_step HB.out hb)
  clear hb HE HP HG HB HY HZ
  have HE := n0_
  have HP := n1_
  have HG := n2_
  have HB := n3_
  clear n0_ n1_ n2_ n3_
  have gc0 : w10.cell? ⟨w1.heap.size, 0, none⟩ = some (.int .i64 2) := (blk_cell HG.out 0).trans rfl
  have gc1 : w10.cell? ⟨w1.heap.size, 1, none⟩ = some (.int .i64 1) := (blk_cell HG.out 1).trans rfl
  have gc2 : w10.cell? ⟨w1.heap.size, 2, none⟩ = some (.slice A 2 c) := (blk_cell HG.out 2).trans rfl
  go_wp2_with fail
  refine (cert_Pairs.calls 2 1 A c [(⟨0, 0, 13⟩ : S69), (⟨1, 0, 18⟩ : S69)] _ 1 [(⟨0, 1⟩ : S50)] 180 _ (Kd.C_alloc HE.out _) HL.out (pairs_at (blk_new _ _)) (by decide) (by decide +kernel)).mono ?_
  rintro e w11 ⟨rfl, hb⟩
  have HBL := Aside0.mk (below_step (below_alloc HB.out _) hb)
  clear hb gc0 gc1 gc2
  go_wp2
  go_ret
  exact ⟨rfl, HBL.out⟩
end Go.Proofs.Ytmdidgdcdlodlaa.Q
