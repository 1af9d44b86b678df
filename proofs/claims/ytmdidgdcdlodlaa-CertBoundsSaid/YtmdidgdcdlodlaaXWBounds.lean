/- The law CertBounds, walked. Written by wip/gen/cert.py. -/
import Derived.Test.YtmdidgdcdlodlaaA3
import Derived.Test.YtmdidgdcdlodlaaQ11
import Derived.Test.YtmdidgdcdlodlaaQ34
import Derived.Test.YtmdidgdcdlodlaaXAlive
namespace Go.Proofs.Ytmdidgdcdlodlaa.Q
open Go.RowKit Go.Proofs.YtmdidgdcdlodlaaW.PrintWords Go.Proofs.YtmdidgdcdlodlaaW.PrintLast Go.Proofs.YtmdidgdcdlodlaaW.PrintMore
set_option linter.unusedVariables false
set_option linter.unusedSimpArgs false
set_option maxHeartbeats 8000000 in
set_option maxRecDepth 100000 in
theorem certBounds_walk (R C : Int) (A0 : Option Addr) (c0 : Nat) (es : List S69) (A1 : Option Addr) (c1 : Nat) (ys : List Int) (A2 : Option Addr) (c2 : Nat) (zs : List Int) (w : World) (hr0 : Kd.C k69 w A0 es.length es) (hc0 : es.length ≤ c0) (hl0 : es.length ≤ 140737488351232) (hr1 : Kd.C (Kd.int .i64) w A1 ys.length ys) (hc1 : ys.length ≤ c1) (hl1 : ys.length ≤ 140737488351232) (hr2 : Kd.C (Kd.int .i64) w A2 zs.length zs) (hc2 : zs.length ≤ c2) (hl2 : zs.length ≤ 140737488351232) (hf : es.length ≤ 1048576 → ys.length ≤ 1048576 → zs.length ≤ 1048576 → ∃ k r e, cert_Bound.f R C es ys zs = some (r, e) ∧ cabstandref18_Bound.f k R C es ys zs = some (r, e)) :
    Calls Try.prog 5 #[.agg #[.int .i64 R, .int .i64 C, .slice A0 es.length c0], .slice A1 ys.length c1, .slice A2 zs.length c2] w fun e w' => e = .returned (.bool true) ∧ Below w.heap.size w w' := by
  have HR0 := Aside0.mk hr0
  have HC0 := Aside0.mk hc0
  have HR1 := Aside0.mk hr1
  have HC1 := Aside0.mk hc1
  have HR2 := Aside0.mk hr2
  have HC2 := Aside0.mk hc2
  have HF := Aside0.mk hf
  obtain ⟨bb, hbb, hsum⟩ := beyond_is [(es.length : Int), (ys.length : Int), (zs.length : Int)] (by intro x hx; simp at hx; omega) (by simp)
  have HBB := Aside0.mk hbb
  clear hr0 hc0 hr1 hc1 hr2 hc2 hf hbb
  go_enter Try.func5, Try.ntmps5
  go_wp2_with fail
  refine (cabstandlaw01_Beyond.calls _ (some ⟨w.heap.size + 1, 0, none⟩) 3 [(es.length : Int), (ys.length : Int), (zs.length : Int)] bb _ (ints_at (by rw [<- World.size_alloc w _]; exact blk_new _ _) (by simp)) (by simp) HBB.out).mono ?_
  rintro e w1 ⟨rfl, hd⟩
  have HB1 : Aside0 (Below w.heap.size w w1) := ⟨by obtain ⟨n, rfl⟩ := hd; exact pw_below_drewN (below_alloc (below_alloc (Below.refl _ _) _) _) _⟩
  have hk : w1.heap[w.heap.size]? = some (.cells #[.int .i64 R, .int .i64 C, .slice A0 es.length c0] 24 (0, 0)) := by obtain ⟨n, rfl⟩ := hd; exact blk_alloc (blk_new w _) _
  have KG1 := Aside0.mk hk
  clear hd hk
  cases bb with
  | true =>
    go_wp2
    go_ret
    exact ⟨rfl, HB1.out⟩
  | false =>
    have HS0 : Aside0 (es.length ≤ 1048576) := ⟨by have h := hsum rfl; simp at h; omega⟩
    have HS1 : Aside0 (ys.length ≤ 1048576) := ⟨by have h := hsum rfl; simp at h; omega⟩
    have HS2 : Aside0 (zs.length ≤ 1048576) := ⟨by have h := hsum rfl; simp at h; omega⟩
    clear hsum HBB
    have gc0 : w1.cell? ⟨w.heap.size, 0, none⟩ = some (.int .i64 R) := (blk_cell KG1.out 0).trans rfl
    have gc1 : w1.cell? ⟨w.heap.size, 1, none⟩ = some (.int .i64 C) := (blk_cell KG1.out 1).trans rfl
    have gc2 : w1.cell? ⟨w.heap.size, 2, none⟩ = some (.slice A0 es.length c0) := (blk_cell KG1.out 2).trans rfl
    go_wp2_with fail
    refine (twinGraph_calls R C A0 c0 es w1 (Kd.C_below HR0.out HB1.out) HC0.out HS0.out).mono ?_
    rintro e w2 ⟨go, co, rfl, hm, hb⟩
    have HME2 : Aside0 (MEdges w2 w.heap.size go co es) := ⟨hm.lower HB1.out.size⟩
    have HB2 : Aside0 (Below w.heap.size w w2) := ⟨below_step HB1.out hb⟩
    have KG2 := Aside0.mk ((hb.block w.heap.size (blk_lt KG1.out)).trans KG1.out)
    clear hm hb gc0 gc1 gc2 KG1 HB1
    go_wp2_with fail
    have hba : Below w2.heap.size w2 (w2.alloc (.cells #[.int .i64 R, .int .i64 C, .slice (some ⟨go, 0, none⟩) es.length co] 24)) := below_new _ _
    have hki : (w2.alloc (.cells #[.int .i64 R, .int .i64 C, .slice (some ⟨go, 0, none⟩) es.length co] 24)).heap[w2.heap.size]? = some (.cells #[.int .i64 R, .int .i64 C, .slice (some ⟨go, 0, none⟩) es.length co] 24 (0, 0)) := blk_new _ _
    have HBA := Aside0.mk (below_step HB2.out hba)
    have KGA : Aside0 ((w2.alloc (.cells #[.int .i64 R, .int .i64 C, .slice (some ⟨go, 0, none⟩) es.length co] 24)).heap[w.heap.size]? = some _) := ⟨(hba.block w.heap.size (blk_lt KG2.out)).trans KG2.out⟩
    have HMEA := Aside0.mk (HME2.out.below hba)
    have KIA := Aside0.mk hki
    clear hba hki
    refine (twinInts_calls A1 c1 ys _ (Kd.C_below HR1.out HBA.out) HC1.out HS1.out).mono ?_
    rintro e w3 ⟨gY, cY, rfl, hm, hb⟩
    have HMY3 : Aside0 (MInts w3 w.heap.size gY cY ys) := ⟨hm.lower HBA.out.size⟩
    have HB3 : Aside0 (Below w.heap.size w w3) := ⟨below_step HBA.out hb⟩
    have KG3 := Aside0.mk ((hb.block w.heap.size (blk_lt KGA.out)).trans KGA.out)
    have KI3 := Aside0.mk ((hb.block w2.heap.size (blk_lt KIA.out)).trans KIA.out)
    have HME3 := Aside0.mk (HMEA.out.below hb)
    clear hm hb HBA KGA KIA HMEA
    go_wp2_with fail
    refine (twinInts_calls A2 c2 zs _ (Kd.C_below HR2.out HB3.out) HC2.out HS2.out).mono ?_
    rintro e w4 ⟨gZ, cZ, rfl, hm, hb⟩
    have HMZ4 : Aside0 (MInts w4 w.heap.size gZ cZ zs) := ⟨hm.lower HB3.out.size⟩
    have HB4 : Aside0 (Below w.heap.size w w4) := ⟨below_step HB3.out hb⟩
    have KG4 := Aside0.mk ((hb.block w.heap.size (blk_lt KG3.out)).trans KG3.out)
    have KI4 := Aside0.mk ((hb.block w2.heap.size (blk_lt KI3.out)).trans KI3.out)
    have HME4 := Aside0.mk (HME3.out.below hb)
    have HMY4 := Aside0.mk (HMY3.out.below hb)
    clear hm hb HB3 KG3 KI3 HME3 HMY3
    obtain ⟨kf, r, er, hf1, hf2⟩ := HF.out HS0.out HS1.out HS2.out
    have HF1 := Aside0.mk hf1
    have HF2 := Aside0.mk hf2
    clear hf1 hf2
    have ic0 : w4.cell? ⟨w2.heap.size, 0, none⟩ = some (.int .i64 R) := (blk_cell KI4.out 0).trans rfl
    have ic1 : w4.cell? ⟨w2.heap.size, 1, none⟩ = some (.int .i64 C) := (blk_cell KI4.out 1).trans rfl
    have ic2 : w4.cell? ⟨w2.heap.size, 2, none⟩ = some (.slice (some ⟨go, 0, none⟩) es.length co) := (blk_cell KI4.out 2).trans rfl
    have gc0 : w4.cell? ⟨w.heap.size, 0, none⟩ = some (.int .i64 R) := (blk_cell KG4.out 0).trans rfl
    have gc1 : w4.cell? ⟨w.heap.size, 1, none⟩ = some (.int .i64 C) := (blk_cell KG4.out 1).trans rfl
    have gc2 : w4.cell? ⟨w.heap.size, 2, none⟩ = some (.slice A0 es.length c0) := (blk_cell KG4.out 2).trans rfl
    go_wp2_with fail
    refine (cert_Bound.calls R C (some ⟨go, 0, none⟩) co es (some ⟨gY, 0, none⟩) cY ys (some ⟨gZ, 0, none⟩) cZ zs r er w4 HME4.out.reads (Nat.le_of_lt HME4.out.lt) HMY4.out.reads (Nat.le_of_lt HMY4.out.lt) HMZ4.out.reads (Nat.le_of_lt HMZ4.out.lt) HF1.out).mono ?_
    rintro e w5 ⟨rfl, hb⟩
    have HB5 : Aside0 (Below w.heap.size w w5) := ⟨below_step HB4.out hb⟩
    have KG5 := Aside0.mk ((hb.block w.heap.size (blk_lt KG4.out)).trans KG4.out)
    have KI5 := Aside0.mk ((hb.block w2.heap.size (blk_lt KI4.out)).trans KI4.out)
    have HME5 := Aside0.mk (HME4.out.below hb)
    have HMY5 := Aside0.mk (HMY4.out.below hb)
    have HMZ5 := Aside0.mk (HMZ4.out.below hb)
    clear hb HB4 KG4 KI4 HME4 HMY4 HMZ4 gc0 gc1 gc2 ic0 ic1 ic2
    have ic0 : w5.cell? ⟨w2.heap.size, 0, none⟩ = some (.int .i64 R) := (blk_cell KI5.out 0).trans rfl
    have ic1 : w5.cell? ⟨w2.heap.size, 1, none⟩ = some (.int .i64 C) := (blk_cell KI5.out 1).trans rfl
    have ic2 : w5.cell? ⟨w2.heap.size, 2, none⟩ = some (.slice (some ⟨go, 0, none⟩) es.length co) := (blk_cell KI5.out 2).trans rfl
    have gc0 : w5.cell? ⟨w.heap.size, 0, none⟩ = some (.int .i64 R) := (blk_cell KG5.out 0).trans rfl
    have gc1 : w5.cell? ⟨w.heap.size, 1, none⟩ = some (.int .i64 C) := (blk_cell KG5.out 1).trans rfl
    have gc2 : w5.cell? ⟨w.heap.size, 2, none⟩ = some (.slice A0 es.length c0) := (blk_cell KG5.out 2).trans rfl
    go_wp2_with fail
    refine (cabstandref18_Bound.calls kf R C A0 c0 es A1 c1 ys A2 c2 zs r er w5 (Kd.C_below HR0.out HB5.out) HC0.out (Kd.C_below HR1.out HB5.out) HC1.out (Kd.C_below HR2.out HB5.out) HC2.out HF2.out).mono ?_
    rintro e w6 ⟨rfl, hb⟩
    have HB6 : Aside0 (Below w.heap.size w w6) := ⟨below_step HB5.out hb⟩
    have KG6 := Aside0.mk ((hb.block w.heap.size (blk_lt KG5.out)).trans KG5.out)
    have KI6 := Aside0.mk ((hb.block w2.heap.size (blk_lt KI5.out)).trans KI5.out)
    have HME6 := Aside0.mk (HME5.out.below hb)
    have HMY6 := Aside0.mk (HMY5.out.below hb)
    have HMZ6 := Aside0.mk (HMZ5.out.below hb)
    clear hb HB5 KG5 KI5 HME5 HMY5 HMZ5 gc0 gc1 gc2 ic0 ic1 ic2
    have ic0 : w6.cell? ⟨w2.heap.size, 0, none⟩ = some (.int .i64 R) := (blk_cell KI6.out 0).trans rfl
    have ic1 : w6.cell? ⟨w2.heap.size, 1, none⟩ = some (.int .i64 C) := (blk_cell KI6.out 1).trans rfl
    have ic2 : w6.cell? ⟨w2.heap.size, 2, none⟩ = some (.slice (some ⟨go, 0, none⟩) es.length co) := (blk_cell KI6.out 2).trans rfl
    have gc0 : w6.cell? ⟨w.heap.size, 0, none⟩ = some (.int .i64 R) := (blk_cell KG6.out 0).trans rfl
    have gc1 : w6.cell? ⟨w.heap.size, 1, none⟩ = some (.int .i64 C) := (blk_cell KG6.out 1).trans rfl
    have gc2 : w6.cell? ⟨w.heap.size, 2, none⟩ = some (.slice A0 es.length c0) := (blk_cell KG6.out 2).trans rfl
    go_wp2_with fail
    refine (leftGraph_calls w.heap.size go co R C es A0 c0 w6 HME6.out (Kd.C_below HR0.out HB6.out) HC0.out HS0.out).mono ?_
    rintro e w7 ⟨rfl, hb⟩
    have HB7 : Aside0 (Below w.heap.size w w7) := ⟨below_step HB6.out hb⟩
    have KG7 := Aside0.mk ((hb.block w.heap.size (blk_lt KG6.out)).trans KG6.out)
    have KI7 := Aside0.mk ((hb.block w2.heap.size (blk_lt KI6.out)).trans KI6.out)
    have HME7 := Aside0.mk (HME6.out.below hb)
    have HMY7 := Aside0.mk (HMY6.out.below hb)
    have HMZ7 := Aside0.mk (HMZ6.out.below hb)
    clear hb HB6 KG6 KI6 HME6 HMY6 HMZ6 gc0 gc1 gc2 ic0 ic1 ic2
    go_wp2_with fail
    refine (leftInts_calls w.heap.size gY cY ys A1 c1 w7 HMY7.out (Kd.C_below HR1.out HB7.out) HC1.out HS1.out).mono ?_
    rintro e w8 ⟨rfl, hb⟩
    have HB8 : Aside0 (Below w.heap.size w w8) := ⟨below_step HB7.out hb⟩
    have KG8 := Aside0.mk ((hb.block w.heap.size (blk_lt KG7.out)).trans KG7.out)
    have KI8 := Aside0.mk ((hb.block w2.heap.size (blk_lt KI7.out)).trans KI7.out)
    have HME8 := Aside0.mk (HME7.out.below hb)
    have HMY8 := Aside0.mk (HMY7.out.below hb)
    have HMZ8 := Aside0.mk (HMZ7.out.below hb)
    clear hb HB7 KG7 KI7 HME7 HMY7 HMZ7 
    go_wp2_with fail
    refine (leftInts_calls w.heap.size gZ cZ zs A2 c2 w8 HMZ8.out (Kd.C_below HR2.out HB8.out) HC2.out HS2.out).mono ?_
    rintro e w9 ⟨rfl, hb⟩
    have HB9 : Aside0 (Below w.heap.size w w9) := ⟨below_step HB8.out hb⟩
    have KG9 := Aside0.mk ((hb.block w.heap.size (blk_lt KG8.out)).trans KG8.out)
    have KI9 := Aside0.mk ((hb.block w2.heap.size (blk_lt KI8.out)).trans KI8.out)
    have HME9 := Aside0.mk (HME8.out.below hb)
    have HMY9 := Aside0.mk (HMY8.out.below hb)
    have HMZ9 := Aside0.mk (HMZ8.out.below hb)
    clear hb HB8 KG8 KI8 HME8 HMY8 HMZ8 
    go_wp2_with fail
    refine (alive_walk w9).mono ?_
    rintro e w10 ⟨rfl, hb⟩
    have HB10 : Aside0 (Below w.heap.size w w10) := ⟨below_step HB9.out hb⟩
    have KG10 := Aside0.mk ((hb.block w.heap.size (blk_lt KG9.out)).trans KG9.out)
    have KI10 := Aside0.mk ((hb.block w2.heap.size (blk_lt KI9.out)).trans KI9.out)
    have HME10 := Aside0.mk (HME9.out.below hb)
    have HMY10 := Aside0.mk (HMY9.out.below hb)
    have HMZ10 := Aside0.mk (HMZ9.out.below hb)
    clear hb HB9 KG9 KI9 HME9 HMY9 HMZ9 
    go_wp2
    go_ret
    exact ⟨rfl, HB10.out⟩
end Go.Proofs.Ytmdidgdcdlodlaa.Q
