/- A certificate whose lists have marks behind them: is it as it was? Conditions: those that stand in the theorem. -/
import Derived.Test.YtmdidgdcdlodlaaA3
namespace Go.Proofs.Ytmdidgdcdlodlaa.Q
open Go.RowKit Go.Proofs.YtmdidgdcdlodlaaW.PrintWords Go.Proofs.YtmdidgdcdlodlaaW.PrintLast Go.Proofs.YtmdidgdcdlodlaaW.PrintMore
set_option linter.unusedVariables false
set_option maxHeartbeats 8000000 in
set_option maxRecDepth 100000 in
theorem leftCert_calls (base gP cP gY cY gZ cZ : Nat) (ps : List S50) (ys zs : List Int) (A0 A1 A2 : Option Addr) (c0 c1 c2 : Nat) (w : World) (hp : MPairs w base gP cP ps) (hy : MInts w base gY cY ys) (hz : MInts w base gZ cZ zs)
    (hr0 : Kd.C k50 w A0 ps.length ps) (hc0 : ps.length ≤ c0) (hr1 : Kd.C (Kd.int .i64) w A1 ys.length ys) (hc1 : ys.length ≤ c1) (hr2 : Kd.C (Kd.int .i64) w A2 zs.length zs) (hc2 : zs.length ≤ c2) (hl0 : ps.length ≤ 1048576) (hl1 : ys.length ≤ 1048576) (hl2 : zs.length ≤ 1048576) :
    Calls Try.prog 16 #[.agg #[.slice (some ⟨gP, 0, none⟩) ps.length cP, .slice (some ⟨gY, 0, none⟩) ys.length cY, .slice (some ⟨gZ, 0, none⟩) zs.length cZ], .agg #[.slice A0 ps.length c0, .slice A1 ys.length c1, .slice A2 zs.length c2]] w fun e w' => e = .returned (.bool true) ∧ Below w.heap.size w w' := by
  have HP := Aside0.mk hp
  have HY := Aside0.mk hy
  have HZ := Aside0.mk hz
  have HR0 := Aside0.mk hr0
  have HR1 := Aside0.mk hr1
  have HR2 := Aside0.mk hr2
  have HC0 := Aside0.mk hc0
  have HC1 := Aside0.mk hc1
  have HC2 := Aside0.mk hc2
  have HL0 := Aside0.mk hl0
  have HL1 := Aside0.mk hl1
  have HL2 := Aside0.mk hl2
  clear hp hy hz hr0 hr1 hr2 hc0 hc1 hc2 hl0 hl1 hl2
  go_enter Try.func16, Try.ntmps16
  go_wp2_with fail
  have hba := below_step (below_new w (.cells #[.slice (some ⟨gP, 0, none⟩) ps.length cP, .slice (some ⟨gY, 0, none⟩) ys.length cY, .slice (some ⟨gZ, 0, none⟩) zs.length cZ] 28)) (below_new _ (.cells #[.slice A0 ps.length c0, .slice A1 ys.length c1, .slice A2 zs.length c2] 28))
  have KA := Aside0.mk (blk_alloc (blk_new w (.cells #[.slice (some ⟨gP, 0, none⟩) ps.length cP, .slice (some ⟨gY, 0, none⟩) ys.length cY, .slice (some ⟨gZ, 0, none⟩) zs.length cZ] 28)) (.cells #[.slice A0 ps.length c0, .slice A1 ys.length c1, .slice A2 zs.length c2] 28))
  have kb := blk_new (w.alloc (.cells #[.slice (some ⟨gP, 0, none⟩) ps.length cP, .slice (some ⟨gY, 0, none⟩) ys.length cY, .slice (some ⟨gZ, 0, none⟩) zs.length cZ] 28)) (.cells #[.slice A0 ps.length c0, .slice A1 ys.length c1, .slice A2 zs.length c2] 28)
  rw [World.size_alloc] at kb
  have KB := Aside0.mk kb
  have HB := Aside0.mk hba
  have HP1 := Aside0.mk (HP.out.below hba)
  have HY1 := Aside0.mk (HY.out.below hba)
  have HZ1 := Aside0.mk (HZ.out.below hba)
  clear hba kb HP HY HZ
  generalize (w.alloc (.cells #[.slice (some ⟨gP, 0, none⟩) ps.length cP, .slice (some ⟨gY, 0, none⟩) ys.length cY, .slice (some ⟨gZ, 0, none⟩) zs.length cZ] 28)).alloc (.cells #[.slice A0 ps.length c0, .slice A1 ys.length c1, .slice A2 zs.length c2] 28) = w1 at KA KB HB HP1 HY1 HZ1 ⊢
  refine (leftPairs_calls base gP cP ps A0 c0 w1 HP1.out (Kd.C_below HR0.out HB.out) HC0.out HL0.out).mono ?_
  rintro e w2 ⟨rfl, hb⟩
  have KA2 := Aside0.mk ((hb.block _ (blk_lt KA.out)).trans KA.out)
  have KB2 := Aside0.mk ((hb.block _ (blk_lt KB.out)).trans KB.out)
  have HB2 := Aside0.mk (below_step HB.out hb)
  have HY2 := Aside0.mk (HY1.out.below hb)
  have HZ2 := Aside0.mk (HZ1.out.below hb)
  clear hb KA KB HB HP1 HY1 HZ1
  have a1 : w2.cell? ⟨w.heap.size, 1, none⟩ = some (.slice (some ⟨gY, 0, none⟩) ys.length cY) := (blk_cell KA2.out 1).trans rfl
  have b1 : w2.cell? ⟨w.heap.size + 1, 1, none⟩ = some (.slice A1 ys.length c1) := (blk_cell KB2.out 1).trans rfl
  go_wp2_with fail
  refine (leftInts_calls base gY cY ys A1 c1 w2 HY2.out (Kd.C_below HR1.out HB2.out) HC1.out HL1.out).mono ?_
  rintro e w3 ⟨rfl, hb⟩
  have KA3 := Aside0.mk ((hb.block _ (blk_lt KA2.out)).trans KA2.out)
  have KB3 := Aside0.mk ((hb.block _ (blk_lt KB2.out)).trans KB2.out)
  have HB3 := Aside0.mk (below_step HB2.out hb)
  have HZ3 := Aside0.mk (HZ2.out.below hb)
  clear hb KA2 KB2 HB2 HY2 HZ2 a1 b1
  have a2 : w3.cell? ⟨w.heap.size, 2, none⟩ = some (.slice (some ⟨gZ, 0, none⟩) zs.length cZ) := (blk_cell KA3.out 2).trans rfl
  have b2 : w3.cell? ⟨w.heap.size + 1, 2, none⟩ = some (.slice A2 zs.length c2) := (blk_cell KB3.out 2).trans rfl
  go_wp2_with fail
  refine (leftInts_calls base gZ cZ zs A2 c2 w3 HZ3.out (Kd.C_below HR2.out HB3.out) HC2.out HL2.out).mono ?_
  rintro e w4 ⟨rfl, hb⟩
  have HB4 := Aside0.mk (below_step HB3.out hb)
  clear hb
  go_wp2
  go_ret
  exact ⟨rfl, HB4.out⟩
end Go.Proofs.Ytmdidgdcdlodlaa.Q
