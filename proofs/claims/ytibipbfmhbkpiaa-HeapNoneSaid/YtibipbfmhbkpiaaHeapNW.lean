import Derived.Test.YtibipbfmhbkpiaaHeapNN
namespace Go.Proofs.Ytibipbfmhbkpiaa.HeapII
open Go.RowKit Go.Proofs.YtibipbfmhbkpiaaW.PrintWords Go.Proofs.YtibipbfmhbkpiaaW.PrintLast Go.Proofs.YtibipbfmhbkpiaaW.PrintMore Go.Proofs.Ytibipbfmhbkpiaa.HeapW Go.Proofs.Ytibipbfmhbkpiaa.HeapP Go.Proofs.Ytibipbfmhbkpiaa.MapAt
set_option linter.unusedVariables false
set_option maxHeartbeats 8000000 in
set_option maxRecDepth 100000 in
theorem none_walk (key rank : Int) (hk : okK key) (w : World) :
    Calls Try.prog 7 #[.int .i64 key, .int .i64 rank] w fun e w' => e = .returned (.bool true) ∧ Below w.heap.size w w' := by
  have HK := Aside0.mk hk
  clear hk
  go_enter Try.func7, Try.ntmps7
  go_wp2_with fail
  refine (new_nil _).mono ?_
  rintro e w2 ⟨g2, rfl, hd, hb⟩
  have HZ := Aside0.mk (DeadH.zero w.heap.size ((hb.block _ (by rw [World.size_alloc]; omega)).trans (blk_new w _)))
  have HD := Aside0.mk hd
  have HB := Aside0.mk (below_then (below_alloc (Below.refl w.heap.size w) _) (by rw [World.size_alloc]; omega) hb)
  clear hd hb
  go_wp2_with fail
  have hba := below_alloc (Below.refl w2.heap.size w2) (.cells #[.pointer none, .pointer (some ⟨w.heap.size, 0, none⟩), .pointer (some ⟨g2, 0, none⟩)] 80)
  have HZ3 := Aside0.mk (HZ.out.below hba)
  have HD3 := Aside0.mk (HD.out.below hba)
  have HB3 := Aside0.mk (below_step HB.out hba)
  have HA3 := Aside0.mk (blk_new w2 (.cells #[.pointer none, .pointer (some ⟨w.heap.size, 0, none⟩), .pointer (some ⟨g2, 0, none⟩)] 80))
  clear hba HZ HD HB
  generalize w2.alloc (.cells #[.pointer none, .pointer (some ⟨w.heap.size, 0, none⟩), .pointer (some ⟨g2, 0, none⟩)] 80) = w3 at HZ3 HD3 HB3 HA3 ⊢
  go_loopg [7] 3 (fun kq v7 w' => ∃ (j : Nat), v7 = .int .i64 j ∧ Aside0 (j + kq = 3) ∧ Aside0 (DeadH w' (.pointer (some ⟨w.heap.size, 0, none⟩)) 2) ∧ Aside0 (DeadH w' (.pointer (some ⟨g2, 0, none⟩)) 1) ∧ Aside0 (Below w.heap.size w w') ∧ Aside0 (w'.heap[w2.heap.size]? = some (.cells #[.pointer none, .pointer (some ⟨w.heap.size, 0, none⟩), .pointer (some ⟨g2, 0, none⟩)] 80 (0, 0))))
  case atStart => exact ⟨0, rfl, ⟨rfl⟩, HZ3, HD3, HB3, HA3⟩
  case round =>
    clear HZ3 HD3 HB3 HA3
    obtain ⟨j, rfl, HJ, HZ, HD, HB, HA⟩ := hrel
    have hc0 : wr.cell? ⟨w2.heap.size, 0, none⟩ = some (.pointer none) := (blk_cell HA.out 0).trans rfl
    have hc1 : wr.cell? ⟨w2.heap.size, 1, none⟩ = some (.pointer (some ⟨w.heap.size, 0, none⟩)) := (blk_cell HA.out 1).trans rfl
    have hc2 : wr.cell? ⟨w2.heap.size, 2, none⟩ = some (.pointer (some ⟨g2, 0, none⟩)) := (blk_cell HA.out 2).trans rfl
    cases gk with
    | zero =>
      have hj : j = 3 := by have := HJ.out; omega
      subst hj
      go_wp2_with fail
      refine (HeapSI.alive_calls wr).mono ?_
      rintro e w4 ⟨rfl, hb⟩
      have HB4 := Aside0.mk (below_step HB.out hb)
      clear hb
      go_wp2
      go_ret
      exact ⟨rfl, HB4.out⟩
    | succ kk =>
      have hj : j = 0 ∨ j = 1 ∨ j = 2 := by have := HJ.out; omega
      rcases hj with rfl | rfl | rfl
      · go_wp2_with fail
        refine (put_dead (.pointer none) 2 key rank wr .nil).mono ?_
        rintro e w4 ⟨rfl, hw_⟩
        replace hw_ := hw_.symm
        subst hw_
        go_wp2_with fail
        refine (drop_dead (.pointer none) 2 key wr HK.out .nil).mono ?_
        rintro e w4 ⟨rfl, hw_⟩
        replace hw_ := hw_.symm
        subst hw_
        go_wp2_with fail
        refine (len_dead (.pointer none) 2 wr .nil).mono ?_
        rintro e w4 ⟨rfl, hw_⟩
        replace hw_ := hw_.symm
        subst hw_
        go_wp2_with fail
        refine (first_dead (.pointer none) 2 wr .nil).mono ?_
        rintro e w4 ⟨rfl, hw_⟩
        replace hw_ := hw_.symm
        subst hw_
        go_wp2_with fail
        refine (pop_dead (.pointer none) 2 wr .nil).mono ?_
        rintro e w4 ⟨rfl, hw_⟩
        replace hw_ := hw_.symm
        subst hw_
        go_wp2_with fail
        refine (rank_dead (.pointer none) 2 key wr HK.out .nil).mono ?_
        rintro e w4 ⟨rfl, hw_⟩
        replace hw_ := hw_.symm
        subst hw_
        go_wp2
        go_roundg kk
        case measure => omega
        case rel => exact ⟨1, by first | rfl | simp, ⟨by have := HJ.out; omega⟩, HZ, HD, HB, HA⟩
      · go_wp2_with fail
        refine (put_dead (.pointer (some ⟨w.heap.size, 0, none⟩)) 2 key rank wr HZ.out).mono ?_
        rintro e w4 ⟨rfl, hw_⟩
        replace hw_ := hw_.symm
        subst hw_
        go_wp2_with fail
        refine (drop_dead (.pointer (some ⟨w.heap.size, 0, none⟩)) 2 key wr HK.out HZ.out).mono ?_
        rintro e w4 ⟨rfl, hw_⟩
        replace hw_ := hw_.symm
        subst hw_
        go_wp2_with fail
        refine (len_dead (.pointer (some ⟨w.heap.size, 0, none⟩)) 2 wr HZ.out).mono ?_
        rintro e w4 ⟨rfl, hw_⟩
        replace hw_ := hw_.symm
        subst hw_
        go_wp2_with fail
        refine (first_dead (.pointer (some ⟨w.heap.size, 0, none⟩)) 2 wr HZ.out).mono ?_
        rintro e w4 ⟨rfl, hw_⟩
        replace hw_ := hw_.symm
        subst hw_
        go_wp2_with fail
        refine (pop_dead (.pointer (some ⟨w.heap.size, 0, none⟩)) 2 wr HZ.out).mono ?_
        rintro e w4 ⟨rfl, hw_⟩
        replace hw_ := hw_.symm
        subst hw_
        go_wp2_with fail
        refine (rank_dead (.pointer (some ⟨w.heap.size, 0, none⟩)) 2 key wr HK.out HZ.out).mono ?_
        rintro e w4 ⟨rfl, hw_⟩
        replace hw_ := hw_.symm
        subst hw_
        go_wp2
        go_roundg kk
        case measure => omega
        case rel => exact ⟨2, by first | rfl | simp, ⟨by have := HJ.out; omega⟩, HZ, HD, HB, HA⟩
      · go_wp2_with fail
        refine (put_dead (.pointer (some ⟨g2, 0, none⟩)) 1 key rank wr HD.out).mono ?_
        rintro e w4 ⟨rfl, hw_⟩
        replace hw_ := hw_.symm
        subst hw_
        go_wp2_with fail
        refine (drop_dead (.pointer (some ⟨g2, 0, none⟩)) 1 key wr HK.out HD.out).mono ?_
        rintro e w4 ⟨rfl, hw_⟩
        replace hw_ := hw_.symm
        subst hw_
        go_wp2_with fail
        refine (len_dead (.pointer (some ⟨g2, 0, none⟩)) 1 wr HD.out).mono ?_
        rintro e w4 ⟨rfl, hw_⟩
        replace hw_ := hw_.symm
        subst hw_
        go_wp2_with fail
        refine (first_dead (.pointer (some ⟨g2, 0, none⟩)) 1 wr HD.out).mono ?_
        rintro e w4 ⟨rfl, hw_⟩
        replace hw_ := hw_.symm
        subst hw_
        go_wp2_with fail
        refine (pop_dead (.pointer (some ⟨g2, 0, none⟩)) 1 wr HD.out).mono ?_
        rintro e w4 ⟨rfl, hw_⟩
        replace hw_ := hw_.symm
        subst hw_
        go_wp2_with fail
        refine (rank_dead (.pointer (some ⟨g2, 0, none⟩)) 1 key wr HK.out HD.out).mono ?_
        rintro e w4 ⟨rfl, hw_⟩
        replace hw_ := hw_.symm
        subst hw_
        go_wp2
        go_roundg kk
        case measure => omega
        case rel => exact ⟨3, by first | rfl | simp, ⟨by have := HJ.out; omega⟩, HZ, HD, HB, HA⟩
end Go.Proofs.Ytibipbfmhbkpiaa.HeapII
