/- What functions of the program answer, each by a Lean function and the proof of its call; written by this session's program gp.py and by hand. Conditions: those that stand in each theorem. -/
import Derived.Test.YtmdidgdcdlodlaaQ0
import Derived.Test.YtmdidgdcdlodlaaQ14
import Derived.Test.YtmdidgdcdlodlaaTightD
namespace Go.Proofs.Ytmdidgdcdlodlaa.Q
open Go.RowKit Go.Proofs.YtmdidgdcdlodlaaW.PrintWords Go.Proofs.YtmdidgdcdlodlaaW.PrintLast Go.Proofs.YtmdidgdcdlodlaaW.PrintMore
attribute [local go_sem] max2_int min2_int max_two min_two max_three min_three max_four min_four   -- for this text's walks alone
set_option linter.unusedVariables false
set_option linter.unusedSimpArgs false

set_option maxHeartbeats 8000000 in
set_option maxRecDepth 100000 in
theorem cabstandlaw18_tight.calls (k : Nat) (a0_0 : Int) (a0_1 : Int) (A0_2 : Option Addr) (c0_2 : Nat) (l0_2 : List (S69)) (A1_0 : Option Addr) (c1_0 : Nat) (l1_0 : List (S50)) (A1_1 : Option Addr) (c1_1 : Nat) (l1_1 : List Int) (A1_2 : Option Addr) (c1_2 : Nat) (l1_2 : List Int) (r : Bool) (w : World) (hr0_2 : Kd.C k69 w A0_2 l0_2.length l0_2) (hc0_2 : l0_2.length ≤ c0_2) (hr1_0 : Kd.C k50 w A1_0 l1_0.length l1_0) (hc1_0 : l1_0.length ≤ c1_0) (hr1_1 : Kd.C (Kd.int .i64) w A1_1 l1_1.length l1_1) (hc1_1 : l1_1.length ≤ c1_1) (hr1_2 : Kd.C (Kd.int .i64) w A1_2 l1_2.length l1_2) (hc1_2 : l1_2.length ≤ c1_2) (h : cabstandlaw18_tight.f k a0_0 a0_1 l0_2 l1_0 l1_1 l1_2 = some r) :
  Calls Try.prog 28 #[.agg #[.int .i64 a0_0, .int .i64 a0_1, .slice A0_2 l0_2.length c0_2], .agg #[.slice A1_0 l1_0.length c1_0, .slice A1_1 l1_1.length c1_1, .slice A1_2 l1_2.length c1_2]] w fun e w' => e = .returned (.bool r) ∧ Below w.heap.size w w' := by
 have hu24 := Try.underlying24
 have hu28 := Try.underlying28
 have hu50 := Try.underlying50
 have HR0_2 := Aside0.mk hr0_2
 have HC0_2 := Aside0.mk hc0_2
 clear hr0_2 hc0_2
 have HR1_0 := Aside0.mk hr1_0
 have HC1_0 := Aside0.mk hc1_0
 clear hr1_0 hc1_0
 have HR1_1 := Aside0.mk hr1_1
 have HC1_1 := Aside0.mk hc1_1
 clear hr1_1 hc1_1
 have HR1_2 := Aside0.mk hr1_2
 have HC1_2 := Aside0.mk hc1_2
 clear hr1_2 hc1_2
 have HB := Aside0.mk (Below.refl w.heap.size w)
 have H : (if (l1_1.length : Int) = a0_0 then (cabstandlaw18_tight.j0 k ((l1_2.length : Int) != a0_1) a0_0 a0_1 l0_2 l1_0 l1_1 l1_2) else (cabstandlaw18_tight.j0 k true a0_0 a0_1 l0_2 l1_0 l1_1 l1_2)) = some r := h
 clear h
 have HC3 := Aside0.mk H
 clear H
 go_enter Try.func28, Try.ntmps28
 go_upto_region 1 with (first | ((with_reducible refine gate_dst (N := 2) rfl ?_); (try (refine gate_guard (by rfl) ?_; dsimp only)); refine box_event ?hg (N := 2) ?hd (cs := #[.int .i64 a0_0, .int .i64 a0_1, .slice A0_2 l0_2.length c0_2]) (t := 24) ?hr ?_; (case hd => rfl); (case hg => rfl); (case hr => first | (go_simp; done) | (go_simp; rfl)); intro gb216 hg w4 hbox hb; have n0_ := Aside0.mk (below_step (by repeat (first | (with_reducible first | exact HB.out | apply below_alloc | apply pw_below_drewN | apply below_drew1) | exact HB.out)) hb); have n1_ := Aside0.mk (hbox); have n2_ := Aside0.mk ((by rw [hg]; exact (below_size (by repeat (first | (with_reducible first | exact HB.out | apply below_alloc | apply pw_below_drewN | apply below_drew1) | exact HB.out))) : w.heap.size ≤ gb216)); have n3_ := Aside0.mk ((by rw [hg]; exact (below_size (by repeat (first | (with_reducible first | exact HB.out | apply below_alloc | apply pw_below_drewN | apply below_drew1) | exact HB.out))) : w.heap.size ≤ gb216)); clear HB; have HB := n0_; have BK216 := n1_; have GW216 := n2_; have GE216 := n3_; clear n0_ n1_ n2_ n3_; clear hb hbox hg) | ((with_reducible refine gate_dst (N := 3) rfl ?_); (try (refine gate_guard (by rfl) ?_; dsimp only)); refine box_event ?hg (N := 3) ?hd (cs := #[.slice A1_0 l1_0.length c1_0, .slice A1_1 l1_1.length c1_1, .slice A1_2 l1_2.length c1_2]) (t := 28) ?hr ?_; (case hd => rfl); (case hg => rfl); (case hr => first | (go_simp; done) | (go_simp; rfl)); intro gb217 hg w5 hbox hb; have n0_ := Aside0.mk (blk_below (g := gb216) (o := .cells #[.int .i64 a0_0, .int .i64 a0_1, .slice A0_2 l0_2.length c0_2] 24 (0, 0)) (by (with_reducible repeat (first | refine blk_drewN ?_ _ | refine blk_drew ?_ | refine blk_alloc ?_ _)); exact BK216.out) hb); have n1_ := Aside0.mk (below_step (by repeat (first | (with_reducible first | exact HB.out | apply below_alloc | apply pw_below_drewN | apply below_drew1 | refine below_set ?_ GE216.out) | exact HB.out)) hb); have n2_ := Aside0.mk (hbox); have n3_ := Aside0.mk ((by rw [hg]; exact (below_size (by repeat (first | (with_reducible first | exact HB.out | apply below_alloc | apply pw_below_drewN | apply below_drew1 | refine below_set ?_ GE216.out) | exact HB.out))) : w.heap.size ≤ gb217)); have n4_ := Aside0.mk ((by rw [hg]; exact (below_size (by repeat (first | (with_reducible first | exact HB.out | apply below_alloc | apply pw_below_drewN | apply below_drew1 | refine below_set ?_ GE216.out) | exact HB.out))) : w.heap.size ≤ gb217)); have n5_ := Aside0.mk ((by rw [hg]; exact Nat.ne_of_lt (blk_lt (g := gb216) (o := .cells #[.int .i64 a0_0, .int .i64 a0_1, .slice A0_2 l0_2.length c0_2] 24 (0, 0)) (by (with_reducible repeat (first | refine blk_drewN ?_ _ | refine blk_drew ?_ | refine blk_alloc ?_ _)); exact BK216.out)) : gb216 ≠ gb217)); have n6_ := Aside0.mk ((by rw [hg]; exact Nat.ne_of_gt (blk_lt (g := gb216) (o := .cells #[.int .i64 a0_0, .int .i64 a0_1, .slice A0_2 l0_2.length c0_2] 24 (0, 0)) (by (with_reducible repeat (first | refine blk_drewN ?_ _ | refine blk_drew ?_ | refine blk_alloc ?_ _)); exact BK216.out)) : gb217 ≠ gb216)); clear BK216; clear HB; have BK216 := n0_; have HB := n1_; have BK217 := n2_; have GW217 := n3_; have GE217 := n4_; have NB216_217 := n5_; have NB217_216 := n6_; clear n0_ n1_ n2_ n3_ n4_ n5_ n6_; clear hb hbox hg))
 repeat (go_quiet (first | ((with_reducible refine gate_dst (N := 2) rfl ?_); (try (refine gate_guard (by rfl) ?_; dsimp only)); refine box_event ?hg (N := 2) ?hd (cs := #[.int .i64 a0_0, .int .i64 a0_1, .slice A0_2 l0_2.length c0_2]) (t := 24) ?hr ?_; (case hd => rfl); (case hg => rfl); (case hr => first | (go_simp; done) | (go_simp; rfl)); intro gb216 hg w4 hbox hb; have n0_ := Aside0.mk (below_step (by repeat (first | (with_reducible first | exact HB.out | apply below_alloc | apply pw_below_drewN | apply below_drew1) | exact HB.out)) hb); have n1_ := Aside0.mk (hbox); have n2_ := Aside0.mk ((by rw [hg]; exact (below_size (by repeat (first | (with_reducible first | exact HB.out | apply below_alloc | apply pw_below_drewN | apply below_drew1) | exact HB.out))) : w.heap.size ≤ gb216)); have n3_ := Aside0.mk ((by rw [hg]; exact (below_size (by repeat (first | (with_reducible first | exact HB.out | apply below_alloc | apply pw_below_drewN | apply below_drew1) | exact HB.out))) : w.heap.size ≤ gb216)); clear HB; have HB := n0_; have BK216 := n1_; have GW216 := n2_; have GE216 := n3_; clear n0_ n1_ n2_ n3_; clear hb hbox hg) | ((with_reducible refine gate_dst (N := 3) rfl ?_); (try (refine gate_guard (by rfl) ?_; dsimp only)); refine box_event ?hg (N := 3) ?hd (cs := #[.slice A1_0 l1_0.length c1_0, .slice A1_1 l1_1.length c1_1, .slice A1_2 l1_2.length c1_2]) (t := 28) ?hr ?_; (case hd => rfl); (case hg => rfl); (case hr => first | (go_simp; done) | (go_simp; rfl)); intro gb217 hg w5 hbox hb; have n0_ := Aside0.mk (blk_below (g := gb216) (o := .cells #[.int .i64 a0_0, .int .i64 a0_1, .slice A0_2 l0_2.length c0_2] 24 (0, 0)) (by (with_reducible repeat (first | refine blk_drewN ?_ _ | refine blk_drew ?_ | refine blk_alloc ?_ _)); exact BK216.out) hb); have n1_ := Aside0.mk (below_step (by repeat (first | (with_reducible first | exact HB.out | apply below_alloc | apply pw_below_drewN | apply below_drew1 | refine below_set ?_ GE216.out) | exact HB.out)) hb); have n2_ := Aside0.mk (hbox); have n3_ := Aside0.mk ((by rw [hg]; exact (below_size (by repeat (first | (with_reducible first | exact HB.out | apply below_alloc | apply pw_below_drewN | apply below_drew1 | refine below_set ?_ GE216.out) | exact HB.out))) : w.heap.size ≤ gb217)); have n4_ := Aside0.mk ((by rw [hg]; exact (below_size (by repeat (first | (with_reducible first | exact HB.out | apply below_alloc | apply pw_below_drewN | apply below_drew1 | refine below_set ?_ GE216.out) | exact HB.out))) : w.heap.size ≤ gb217)); have n5_ := Aside0.mk ((by rw [hg]; exact Nat.ne_of_lt (blk_lt (g := gb216) (o := .cells #[.int .i64 a0_0, .int .i64 a0_1, .slice A0_2 l0_2.length c0_2] 24 (0, 0)) (by (with_reducible repeat (first | refine blk_drewN ?_ _ | refine blk_drew ?_ | refine blk_alloc ?_ _)); exact BK216.out)) : gb216 ≠ gb217)); have n6_ := Aside0.mk ((by rw [hg]; exact Nat.ne_of_gt (blk_lt (g := gb216) (o := .cells #[.int .i64 a0_0, .int .i64 a0_1, .slice A0_2 l0_2.length c0_2] 24 (0, 0)) (by (with_reducible repeat (first | refine blk_drewN ?_ _ | refine blk_drew ?_ | refine blk_alloc ?_ _)); exact BK216.out)) : gb217 ≠ gb216)); clear BK216; clear HB; have BK216 := n0_; have HB := n1_; have BK217 := n2_; have GW217 := n3_; have GE217 := n4_; have NB216_217 := n5_; have NB217_216 := n6_; clear n0_ n1_ n2_ n3_ n4_ n5_ n6_; clear hb hbox hg)); go_upto_region 1 with (first | ((with_reducible refine gate_dst (N := 2) rfl ?_); (try (refine gate_guard (by rfl) ?_; dsimp only)); refine box_event ?hg (N := 2) ?hd (cs := #[.int .i64 a0_0, .int .i64 a0_1, .slice A0_2 l0_2.length c0_2]) (t := 24) ?hr ?_; (case hd => rfl); (case hg => rfl); (case hr => first | (go_simp; done) | (go_simp; rfl)); intro gb216 hg w4 hbox hb; have n0_ := Aside0.mk (below_step (by repeat (first | (with_reducible first | exact HB.out | apply below_alloc | apply pw_below_drewN | apply below_drew1) | exact HB.out)) hb); have n1_ := Aside0.mk (hbox); have n2_ := Aside0.mk ((by rw [hg]; exact (below_size (by repeat (first | (with_reducible first | exact HB.out | apply below_alloc | apply pw_below_drewN | apply below_drew1) | exact HB.out))) : w.heap.size ≤ gb216)); have n3_ := Aside0.mk ((by rw [hg]; exact (below_size (by repeat (first | (with_reducible first | exact HB.out | apply below_alloc | apply pw_below_drewN | apply below_drew1) | exact HB.out))) : w.heap.size ≤ gb216)); clear HB; have HB := n0_; have BK216 := n1_; have GW216 := n2_; have GE216 := n3_; clear n0_ n1_ n2_ n3_; clear hb hbox hg) | ((with_reducible refine gate_dst (N := 3) rfl ?_); (try (refine gate_guard (by rfl) ?_; dsimp only)); refine box_event ?hg (N := 3) ?hd (cs := #[.slice A1_0 l1_0.length c1_0, .slice A1_1 l1_1.length c1_1, .slice A1_2 l1_2.length c1_2]) (t := 28) ?hr ?_; (case hd => rfl); (case hg => rfl); (case hr => first | (go_simp; done) | (go_simp; rfl)); intro gb217 hg w5 hbox hb; have n0_ := Aside0.mk (blk_below (g := gb216) (o := .cells #[.int .i64 a0_0, .int .i64 a0_1, .slice A0_2 l0_2.length c0_2] 24 (0, 0)) (by (with_reducible repeat (first | refine blk_drewN ?_ _ | refine blk_drew ?_ | refine blk_alloc ?_ _)); exact BK216.out) hb); have n1_ := Aside0.mk (below_step (by repeat (first | (with_reducible first | exact HB.out | apply below_alloc | apply pw_below_drewN | apply below_drew1 | refine below_set ?_ GE216.out) | exact HB.out)) hb); have n2_ := Aside0.mk (hbox); have n3_ := Aside0.mk ((by rw [hg]; exact (below_size (by repeat (first | (with_reducible first | exact HB.out | apply below_alloc | apply pw_below_drewN | apply below_drew1 | refine below_set ?_ GE216.out) | exact HB.out))) : w.heap.size ≤ gb217)); have n4_ := Aside0.mk ((by rw [hg]; exact (below_size (by repeat (first | (with_reducible first | exact HB.out | apply below_alloc | apply pw_below_drewN | apply below_drew1 | refine below_set ?_ GE216.out) | exact HB.out))) : w.heap.size ≤ gb217)); have n5_ := Aside0.mk ((by rw [hg]; exact Nat.ne_of_lt (blk_lt (g := gb216) (o := .cells #[.int .i64 a0_0, .int .i64 a0_1, .slice A0_2 l0_2.length c0_2] 24 (0, 0)) (by (with_reducible repeat (first | refine blk_drewN ?_ _ | refine blk_drew ?_ | refine blk_alloc ?_ _)); exact BK216.out)) : gb216 ≠ gb217)); have n6_ := Aside0.mk ((by rw [hg]; exact Nat.ne_of_gt (blk_lt (g := gb216) (o := .cells #[.int .i64 a0_0, .int .i64 a0_1, .slice A0_2 l0_2.length c0_2] 24 (0, 0)) (by (with_reducible repeat (first | refine blk_drewN ?_ _ | refine blk_drew ?_ | refine blk_alloc ?_ _)); exact BK216.out)) : gb217 ≠ gb216)); clear BK216; clear HB; have BK216 := n0_; have HB := n1_; have BK217 := n2_; have GW217 := n3_; have GE217 := n4_; have NB216_217 := n5_; have NB217_216 := n6_; clear n0_ n1_ n2_ n3_ n4_ n5_ n6_; clear hb hbox hg)))
 (try simp only [Act.put, List.setIfInBounds_toArray, List.set_cons_zero, List.set_cons_succ])
 go_cut [26] (fun v26 wc => ∃ (kq : Nat) (x26_2 : Bool), v26 = .bool x26_2 ∧ Aside0 (cabstandlaw18_tight.j0 kq x26_2 a0_0 a0_1 l0_2 l1_0 l1_1 l1_2 = some r) ∧ Aside0 (kq ≤ k) ∧ Aside0 (wc.heap[gb216]? = some (.cells #[.int .i64 a0_0, .int .i64 a0_1, (.slice A0_2 l0_2.length c0_2)] 24 (0, 0))) ∧ Aside0 (wc.heap[gb217]? = some (.cells #[(.slice A1_0 l1_0.length c1_0), (.slice A1_1 l1_1.length c1_1), (.slice A1_2 l1_2.length c1_2)] 28 (0, 0))) ∧ Aside0 (Below w.heap.size w wc))
 case first =>
  as_aux_lemma =>
  have H := HC3.out
  clear HC3
  by_cases c6 : (l1_1.length : Int) = a0_0
  ·rw [if_pos c6] at H
   have c6b0 : ((l1_1.length : Int) == a0_0) = true := beq_iff_eq.mpr c6
   have c6b1 : ((l1_1.length : Int) != a0_0) = false := bne_eq_false_iff_eq.mpr c6
   clear c6
   (first | rw [c6b0] | (simp only [i64_w, i32_w]; rw [c6b0]) | skip)
   have H' := Aside0.mk H
   clear H
   have hnb7 := NB217_216.out
   have hnc7 := NB216_217.out
   have hcz8_0 : w5.cell? ⟨gb217, 0, none⟩ = some (.slice A1_0 l1_0.length c1_0) := (blk_cell BK217.out 0).trans rfl
   have hcz8_1 : w5.cell? ⟨gb217, 1, none⟩ = some (.slice A1_1 l1_1.length c1_1) := (blk_cell BK217.out 1).trans rfl
   have hcz8_2 : w5.cell? ⟨gb217, 2, none⟩ = some (.slice A1_2 l1_2.length c1_2) := (blk_cell BK217.out 2).trans rfl
   have hfz8_0 := blk_frozen BK217.out 0
   have hfz8_1 := blk_frozen BK217.out 1
   have hfz8_2 := blk_frozen BK217.out 2
   have hcz9_0 : w5.cell? ⟨gb216, 0, none⟩ = some (.int .i64 a0_0) := (blk_cell BK216.out 0).trans rfl
   have hcz9_1 : w5.cell? ⟨gb216, 1, none⟩ = some (.int .i64 a0_1) := (blk_cell BK216.out 1).trans rfl
   have hcz9_2 : w5.cell? ⟨gb216, 2, none⟩ = some (.slice A0_2 l0_2.length c0_2) := (blk_cell BK216.out 2).trans rfl
   have hfz9_0 := blk_frozen BK216.out 0
   have hfz9_1 := blk_frozen BK216.out 1
   have hfz9_2 := blk_frozen BK216.out 2
   go_wp2
   repeat (go_quiet (fail); try go_wp2)
   go_meet
   case rel => exact ⟨_, (((l1_2.length : Int) != a0_1)), (by first | rfl | (simp; done) | (simp [*]; done)), H', ⟨by first | omega | exact Nat.le_refl _⟩, ⟨by (with_reducible repeat (first | refine blk_drewN ?_ _ | refine blk_drew ?_ | refine blk_alloc ?_ _)); exact BK216.out⟩, ⟨by (with_reducible repeat (first | refine blk_drewN ?_ _ | refine blk_drew ?_ | refine blk_alloc ?_ _)); exact BK217.out⟩, ⟨by repeat (first | (with_reducible first | exact HB.out | apply below_alloc | apply pw_below_drewN | apply below_drew1 | refine below_set ?_ GE216.out | refine below_set ?_ GE217.out) | exact HB.out)⟩⟩
  ·rw [if_neg c6] at H
   have c6b0 : ((l1_1.length : Int) == a0_0) = false := beq_eq_false_iff_ne.mpr c6
   have c6b1 : ((l1_1.length : Int) != a0_0) = true := bne_iff_ne.mpr c6
   (first | rw [c6b0] | (simp only [i64_w, i32_w]; rw [c6b0]) | skip)
   have H' := Aside0.mk H
   clear H
   have hnb10 := NB217_216.out
   have hnc10 := NB216_217.out
   have hcz11_0 : w5.cell? ⟨gb217, 0, none⟩ = some (.slice A1_0 l1_0.length c1_0) := (blk_cell BK217.out 0).trans rfl
   have hcz11_1 : w5.cell? ⟨gb217, 1, none⟩ = some (.slice A1_1 l1_1.length c1_1) := (blk_cell BK217.out 1).trans rfl
   have hcz11_2 : w5.cell? ⟨gb217, 2, none⟩ = some (.slice A1_2 l1_2.length c1_2) := (blk_cell BK217.out 2).trans rfl
   have hfz11_0 := blk_frozen BK217.out 0
   have hfz11_1 := blk_frozen BK217.out 1
   have hfz11_2 := blk_frozen BK217.out 2
   have hcz12_0 : w5.cell? ⟨gb216, 0, none⟩ = some (.int .i64 a0_0) := (blk_cell BK216.out 0).trans rfl
   have hcz12_1 : w5.cell? ⟨gb216, 1, none⟩ = some (.int .i64 a0_1) := (blk_cell BK216.out 1).trans rfl
   have hcz12_2 : w5.cell? ⟨gb216, 2, none⟩ = some (.slice A0_2 l0_2.length c0_2) := (blk_cell BK216.out 2).trans rfl
   have hfz12_0 := blk_frozen BK216.out 0
   have hfz12_1 := blk_frozen BK216.out 1
   have hfz12_2 := blk_frozen BK216.out 2
   go_wp2
   repeat (go_quiet (fail); try go_wp2)
   go_meet
   case rel => exact ⟨_, (true), (by first | rfl | (simp; done) | (simp [*]; done)), H', ⟨by first | omega | exact Nat.le_refl _⟩, ⟨by (with_reducible repeat (first | refine blk_drewN ?_ _ | refine blk_drew ?_ | refine blk_alloc ?_ _)); exact BK216.out⟩, ⟨by (with_reducible repeat (first | refine blk_drewN ?_ _ | refine blk_drew ?_ | refine blk_alloc ?_ _)); exact BK217.out⟩, ⟨by repeat (first | (with_reducible first | exact HB.out | apply below_alloc | apply pw_below_drewN | apply below_drew1 | refine below_set ?_ GE216.out | refine below_set ?_ GE217.out) | exact HB.out)⟩⟩
 case rest =>
  as_aux_lemma =>
  clear HC3
  try clear c1
  try clear c2
  try clear p2
  try clear c6
  try clear c6b0
  try clear c6b1
  try clear c7
  try clear c10
  try clear hcz11_0
  try clear hcz11_1
  try clear hcz11_2
  try clear hcz12_0
  try clear hcz12_1
  try clear hcz12_2
  try clear hcz8_0
  try clear hcz8_1
  try clear hcz8_2
  try clear hcz9_0
  try clear hcz9_1
  try clear hcz9_2
  try clear hfz11_0
  try clear hfz11_1
  try clear hfz11_2
  try clear hfz12_0
  try clear hfz12_1
  try clear hfz12_2
  try clear hfz8_0
  try clear hfz8_1
  try clear hfz8_2
  try clear hfz9_0
  try clear hfz9_1
  try clear hfz9_2
  obtain ⟨kq, x26_2, rfl, HA, HJ2, BK216, BK217, HB⟩ := hcut
  cases kq with
  | zero => exact absurd HA.out (by simp [cabstandlaw18_tight.j0])
  | succ kj2 =>
   have H := HA.out
   clear HA
   simp only [cabstandlaw18_tight.j0] at H
   by_cases c13 : x26_2 = true
   ·subst c13
    have H1 : (some false) = some r := by rw [if_pos rfl] at H; exact H
    clear H
    have H := H1
    clear H1
    obtain rfl := Option.some.inj H
    go_wp2
    repeat (go_quiet (fail); try go_wp2)
    go_ret
    exact ⟨by first | rfl | (simp [errW_none, errW_some] <;> rfl) | (simp [*, errW_none, errW_some] <;> rfl), by repeat (first | (with_reducible first | exact HB.out | apply below_alloc | apply pw_below_drewN | apply below_drew1 | refine below_set ?_ GE216.out | refine below_set ?_ GE217.out) | exact HB.out)⟩
   ·replace c13 := Bool.eq_false_iff.mpr c13
    subst c13
    have H1 : (if 0 ≤ a0_0 then (if (a0_0 : Int).toNat ≤ 281474976710656 then (if 0 ≤ a0_1 then (if (a0_1 : Int).toNat ≤ 281474976710656 then (cabstandlaw18_tight.l0 kj2 (List.replicate (a0_0 : Int).toNat false) (List.replicate (a0_1 : Int).toNat false) 0 a0_0 a0_1 l0_2 l1_0 l1_1 l1_2) else (none)) else (none)) else (none)) else (none)) = some r := by rw [if_neg (show ¬ (false = true) by decide)] at H; exact H
    clear H
    have H := H1
    clear H1
    by_cases c14 : 0 ≤ a0_0
    ·rw [if_pos c14] at H
     have c14b0 := eq_true c14
     have c14b1 : decide (0 ≤ a0_0) = true := decide_eq_true c14
     clear c14
     by_cases c15 : (a0_0 : Int).toNat ≤ 281474976710656
     ·rw [if_pos c15] at H
      have c15b0 := eq_true c15
      have c15b1 : decide ((a0_0 : Int).toNat ≤ 281474976710656) = true := decide_eq_true c15
      clear c15
      obtain ⟨y218, hy218⟩ : ∃ y_ : List Bool, y_ = (List.replicate (a0_0 : Int).toNat false) := ⟨_, rfl⟩
      replace H : (if 0 ≤ a0_1 then (if (a0_1 : Int).toNat ≤ 281474976710656 then (cabstandlaw18_tight.l0 kj2 y218 (List.replicate (a0_1 : Int).toNat false) 0 a0_0 a0_1 l0_2 l1_0 l1_1 l1_2) else (none)) else (none)) = some r := by first | (rw [hy218]; with_reducible exact H) | (have H2_ := (Option.bind_some _ _).symm.trans H; rw [hy218]; with_reducible exact H2_) | (have H2_ := (Option.bind_some _ _).symm.trans H; with_reducible exact H2_) | with_reducible exact H | (rw [hy218]; exact H) | exact H
      have Ny218 := Aside0.mk hy218
      clear hy218
      by_cases c16 : 0 ≤ a0_1
      ·rw [if_pos c16] at H
       have c16b0 := eq_true c16
       have c16b1 : decide (0 ≤ a0_1) = true := decide_eq_true c16
       clear c16
       by_cases c17 : (a0_1 : Int).toNat ≤ 281474976710656
       ·rw [if_pos c17] at H
        have c17b0 := eq_true c17
        have c17b1 : decide ((a0_1 : Int).toNat ≤ 281474976710656) = true := decide_eq_true c17
        clear c17
        obtain ⟨y221, hy221⟩ : ∃ y_ : List Bool, y_ = (List.replicate (a0_1 : Int).toNat false) := ⟨_, rfl⟩
        replace H : (cabstandlaw18_tight.l0 kj2 y218 y221 0 a0_0 a0_1 l0_2 l1_0 l1_1 l1_2) = some r := by first | (rw [hy221]; with_reducible exact H) | (have H2_ := (Option.bind_some _ _).symm.trans H; rw [hy221]; with_reducible exact H2_) | (have H2_ := (Option.bind_some _ _).symm.trans H; with_reducible exact H2_) | with_reducible exact H | (rw [hy221]; exact H) | exact H
        have Ny221 := Aside0.mk hy221
        clear hy221
        have H' := Aside0.mk H
        clear H
        have hnb18 := NB216_217.out
        have hnc18 := NB217_216.out
        have hcz19_0 : wc.cell? ⟨gb216, 0, none⟩ = some (.int .i64 a0_0) := (blk_cell BK216.out 0).trans rfl
        have hcz19_1 : wc.cell? ⟨gb216, 1, none⟩ = some (.int .i64 a0_1) := (blk_cell BK216.out 1).trans rfl
        have hcz19_2 : wc.cell? ⟨gb216, 2, none⟩ = some (.slice A0_2 l0_2.length c0_2) := (blk_cell BK216.out 2).trans rfl
        have hfz19_0 := blk_frozen BK216.out 0
        have hfz19_1 := blk_frozen BK216.out 1
        have hfz19_2 := blk_frozen BK216.out 2
        go_wp2_with (first | ((with_reducible refine gate_dst (N := 29) rfl ?_); (try (refine gate_guard (by rfl) ?_; dsimp only)); refine Kd.R_make Kd.bool _ 4 rfl (N := 29) rfl 70 _ _ rfl a0_0 rfl rfl Try.underlying70 (.bool false) 1 info4 rfl (by decide) (by omega) false (ok := fun _ => True) (okp := fun _ => True) rfl (fun _ hk => hk) trivial (of_decide_eq_true (by first | (with_reducible assumption) | assumption)) (Nat.le_trans (Nat.mul_le_mul_right _ (of_decide_eq_true (by first | (with_reducible assumption) | assumption) : a0_0.toNat ≤ 281474976710656)) (by omega)) (Below.refl _ _) (Nat.le_refl _) ?_; intro v219 w20 ho21 hb hg_ hnew_; clear hg_ hnew_; (first | rw [← Ny218.out] at ho21 | (simp only [Int.reduceToNat] at ho21; rw [← Ny218.out] at ho21)); have n0_ := Aside0.mk (Kd.R_lower ho21 (below_size (by repeat (first | (with_reducible first | exact HB.out | apply below_alloc | apply pw_below_drewN | apply below_drew1 | refine below_set ?_ GE216.out | refine below_set ?_ GE217.out) | exact HB.out)))); have n1_ := Aside0.mk (blk_below (g := gb216) (o := .cells #[.int .i64 a0_0, .int .i64 a0_1, .slice A0_2 l0_2.length c0_2] 24 (0, 0)) (by (with_reducible repeat (first | refine blk_drewN ?_ _ | refine blk_drew ?_ | refine blk_alloc ?_ _)); exact BK216.out) hb); have n2_ := Aside0.mk (blk_below (g := gb217) (o := .cells #[.slice A1_0 l1_0.length c1_0, .slice A1_1 l1_1.length c1_1, .slice A1_2 l1_2.length c1_2] 28 (0, 0)) (by (with_reducible repeat (first | refine blk_drewN ?_ _ | refine blk_drew ?_ | refine blk_alloc ?_ _)); exact BK217.out) hb); have n3_ := Aside0.mk (below_step (by repeat (first | (with_reducible first | exact HB.out | apply below_alloc | apply pw_below_drewN | apply below_drew1 | refine below_set ?_ GE216.out | refine below_set ?_ GE217.out) | exact HB.out)) hb); clear BK216; clear BK217; clear HB; have HO220 := n0_; have BK216 := n1_; have BK217 := n2_; have HB := n3_; clear n0_ n1_ n2_ n3_; clear hb ho21; have hcz22_0 : w20.cell? ⟨gb216, 0, none⟩ = some (.int .i64 a0_0) := (blk_cell BK216.out 0).trans rfl; have hcz22_1 : w20.cell? ⟨gb216, 1, none⟩ = some (.int .i64 a0_1) := (blk_cell BK216.out 1).trans rfl; have hcz22_2 : w20.cell? ⟨gb216, 2, none⟩ = some (.slice A0_2 l0_2.length c0_2) := (blk_cell BK216.out 2).trans rfl; have hfz22_0 := blk_frozen BK216.out 0; have hfz22_1 := blk_frozen BK216.out 1; have hfz22_2 := blk_frozen BK216.out 2) | ((with_reducible refine gate_dst (N := 32) rfl ?_); (try (refine gate_guard (by rfl) ?_; dsimp only)); refine Kd.R_make Kd.bool _ 4 rfl (N := 32) rfl 70 _ _ rfl a0_1 rfl rfl Try.underlying70 (.bool false) 1 info4 rfl (by decide) (by omega) false (ok := fun _ => True) (okp := fun _ => True) rfl (fun _ hk => hk) trivial (of_decide_eq_true (by first | (with_reducible assumption) | assumption)) (Nat.le_trans (Nat.mul_le_mul_right _ (of_decide_eq_true (by first | (with_reducible assumption) | assumption) : a0_1.toNat ≤ 281474976710656)) (by omega)) (Below.refl _ _) (Nat.le_refl _) ?_; intro v222 w23 ho24 hb hg_ hnew_; clear hg_ hnew_; (first | rw [← Ny221.out] at ho24 | (simp only [Int.reduceToNat] at ho24; rw [← Ny221.out] at ho24)); have n0_ := Aside0.mk (Kd.R_elder' (by (with_reducible repeat (first | apply Kd.R_alloc | apply Kd.R_drewN | apply Kd.R_drew)); exact HO220.out) (Kd.R_base ho24) hb); have n1_ := Aside0.mk (Kd.R_lower (Kd.R_new' ho24 (Kd.R_lt (by (with_reducible repeat (first | apply Kd.R_alloc | apply Kd.R_drewN | apply Kd.R_drew)); exact HO220.out))) (below_size (by repeat (first | (with_reducible first | exact HB.out | apply below_alloc | apply pw_below_drewN | apply below_drew1 | refine below_set ?_ GE216.out | refine below_set ?_ GE217.out) | exact HB.out)))); have n2_ := Aside0.mk (blk_below (g := gb216) (o := .cells #[.int .i64 a0_0, .int .i64 a0_1, .slice A0_2 l0_2.length c0_2] 24 (0, 0)) (by (with_reducible repeat (first | refine blk_drewN ?_ _ | refine blk_drew ?_ | refine blk_alloc ?_ _)); exact BK216.out) hb); have n3_ := Aside0.mk (blk_below (g := gb217) (o := .cells #[.slice A1_0 l1_0.length c1_0, .slice A1_1 l1_1.length c1_1, .slice A1_2 l1_2.length c1_2] 28 (0, 0)) (by (with_reducible repeat (first | refine blk_drewN ?_ _ | refine blk_drew ?_ | refine blk_alloc ?_ _)); exact BK217.out) hb); have n4_ := Aside0.mk (below_step (by repeat (first | (with_reducible first | exact HB.out | apply below_alloc | apply pw_below_drewN | apply below_drew1 | refine below_set ?_ GE216.out | refine below_set ?_ GE217.out) | exact HB.out)) hb); clear HO220; clear BK216; clear BK217; clear HB; have HO220 := n0_; have HO223 := n1_; have BK216 := n2_; have BK217 := n3_; have HB := n4_; clear n0_ n1_ n2_ n3_ n4_; clear hb ho24))
        repeat (go_quiet (first | ((with_reducible refine gate_dst (N := 29) rfl ?_); (try (refine gate_guard (by rfl) ?_; dsimp only)); refine Kd.R_make Kd.bool _ 4 rfl (N := 29) rfl 70 _ _ rfl a0_0 rfl rfl Try.underlying70 (.bool false) 1 info4 rfl (by decide) (by omega) false (ok := fun _ => True) (okp := fun _ => True) rfl (fun _ hk => hk) trivial (of_decide_eq_true (by first | (with_reducible assumption) | assumption)) (Nat.le_trans (Nat.mul_le_mul_right _ (of_decide_eq_true (by first | (with_reducible assumption) | assumption) : a0_0.toNat ≤ 281474976710656)) (by omega)) (Below.refl _ _) (Nat.le_refl _) ?_; intro v219 w20 ho21 hb hg_ hnew_; clear hg_ hnew_; (first | rw [← Ny218.out] at ho21 | (simp only [Int.reduceToNat] at ho21; rw [← Ny218.out] at ho21)); have n0_ := Aside0.mk (Kd.R_lower ho21 (below_size (by repeat (first | (with_reducible first | exact HB.out | apply below_alloc | apply pw_below_drewN | apply below_drew1 | refine below_set ?_ GE216.out | refine below_set ?_ GE217.out) | exact HB.out)))); have n1_ := Aside0.mk (blk_below (g := gb216) (o := .cells #[.int .i64 a0_0, .int .i64 a0_1, .slice A0_2 l0_2.length c0_2] 24 (0, 0)) (by (with_reducible repeat (first | refine blk_drewN ?_ _ | refine blk_drew ?_ | refine blk_alloc ?_ _)); exact BK216.out) hb); have n2_ := Aside0.mk (blk_below (g := gb217) (o := .cells #[.slice A1_0 l1_0.length c1_0, .slice A1_1 l1_1.length c1_1, .slice A1_2 l1_2.length c1_2] 28 (0, 0)) (by (with_reducible repeat (first | refine blk_drewN ?_ _ | refine blk_drew ?_ | refine blk_alloc ?_ _)); exact BK217.out) hb); have n3_ := Aside0.mk (below_step (by repeat (first | (with_reducible first | exact HB.out | apply below_alloc | apply pw_below_drewN | apply below_drew1 | refine below_set ?_ GE216.out | refine below_set ?_ GE217.out) | exact HB.out)) hb); clear BK216; clear BK217; clear HB; have HO220 := n0_; have BK216 := n1_; have BK217 := n2_; have HB := n3_; clear n0_ n1_ n2_ n3_; clear hb ho21; have hcz22_0 : w20.cell? ⟨gb216, 0, none⟩ = some (.int .i64 a0_0) := (blk_cell BK216.out 0).trans rfl; have hcz22_1 : w20.cell? ⟨gb216, 1, none⟩ = some (.int .i64 a0_1) := (blk_cell BK216.out 1).trans rfl; have hcz22_2 : w20.cell? ⟨gb216, 2, none⟩ = some (.slice A0_2 l0_2.length c0_2) := (blk_cell BK216.out 2).trans rfl; have hfz22_0 := blk_frozen BK216.out 0; have hfz22_1 := blk_frozen BK216.out 1; have hfz22_2 := blk_frozen BK216.out 2) | ((with_reducible refine gate_dst (N := 32) rfl ?_); (try (refine gate_guard (by rfl) ?_; dsimp only)); refine Kd.R_make Kd.bool _ 4 rfl (N := 32) rfl 70 _ _ rfl a0_1 rfl rfl Try.underlying70 (.bool false) 1 info4 rfl (by decide) (by omega) false (ok := fun _ => True) (okp := fun _ => True) rfl (fun _ hk => hk) trivial (of_decide_eq_true (by first | (with_reducible assumption) | assumption)) (Nat.le_trans (Nat.mul_le_mul_right _ (of_decide_eq_true (by first | (with_reducible assumption) | assumption) : a0_1.toNat ≤ 281474976710656)) (by omega)) (Below.refl _ _) (Nat.le_refl _) ?_; intro v222 w23 ho24 hb hg_ hnew_; clear hg_ hnew_; (first | rw [← Ny221.out] at ho24 | (simp only [Int.reduceToNat] at ho24; rw [← Ny221.out] at ho24)); have n0_ := Aside0.mk (Kd.R_elder' (by (with_reducible repeat (first | apply Kd.R_alloc | apply Kd.R_drewN | apply Kd.R_drew)); exact HO220.out) (Kd.R_base ho24) hb); have n1_ := Aside0.mk (Kd.R_lower (Kd.R_new' ho24 (Kd.R_lt (by (with_reducible repeat (first | apply Kd.R_alloc | apply Kd.R_drewN | apply Kd.R_drew)); exact HO220.out))) (below_size (by repeat (first | (with_reducible first | exact HB.out | apply below_alloc | apply pw_below_drewN | apply below_drew1 | refine below_set ?_ GE216.out | refine below_set ?_ GE217.out) | exact HB.out)))); have n2_ := Aside0.mk (blk_below (g := gb216) (o := .cells #[.int .i64 a0_0, .int .i64 a0_1, .slice A0_2 l0_2.length c0_2] 24 (0, 0)) (by (with_reducible repeat (first | refine blk_drewN ?_ _ | refine blk_drew ?_ | refine blk_alloc ?_ _)); exact BK216.out) hb); have n3_ := Aside0.mk (blk_below (g := gb217) (o := .cells #[.slice A1_0 l1_0.length c1_0, .slice A1_1 l1_1.length c1_1, .slice A1_2 l1_2.length c1_2] 28 (0, 0)) (by (with_reducible repeat (first | refine blk_drewN ?_ _ | refine blk_drew ?_ | refine blk_alloc ?_ _)); exact BK217.out) hb); have n4_ := Aside0.mk (below_step (by repeat (first | (with_reducible first | exact HB.out | apply below_alloc | apply pw_below_drewN | apply below_drew1 | refine below_set ?_ GE216.out | refine below_set ?_ GE217.out) | exact HB.out)) hb); clear HO220; clear BK216; clear BK217; clear HB; have HO220 := n0_; have HO223 := n1_; have BK216 := n2_; have BK217 := n3_; have HB := n4_; clear n0_ n1_ n2_ n3_ n4_; clear hb ho24)); try go_wp2_with (first | ((with_reducible refine gate_dst (N := 29) rfl ?_); (try (refine gate_guard (by rfl) ?_; dsimp only)); refine Kd.R_make Kd.bool _ 4 rfl (N := 29) rfl 70 _ _ rfl a0_0 rfl rfl Try.underlying70 (.bool false) 1 info4 rfl (by decide) (by omega) false (ok := fun _ => True) (okp := fun _ => True) rfl (fun _ hk => hk) trivial (of_decide_eq_true (by first | (with_reducible assumption) | assumption)) (Nat.le_trans (Nat.mul_le_mul_right _ (of_decide_eq_true (by first | (with_reducible assumption) | assumption) : a0_0.toNat ≤ 281474976710656)) (by omega)) (Below.refl _ _) (Nat.le_refl _) ?_; intro v219 w20 ho21 hb hg_ hnew_; clear hg_ hnew_; (first | rw [← Ny218.out] at ho21 | (simp only [Int.reduceToNat] at ho21; rw [← Ny218.out] at ho21)); have n0_ := Aside0.mk (Kd.R_lower ho21 (below_size (by repeat (first | (with_reducible first | exact HB.out | apply below_alloc | apply pw_below_drewN | apply below_drew1 | refine below_set ?_ GE216.out | refine below_set ?_ GE217.out) | exact HB.out)))); have n1_ := Aside0.mk (blk_below (g := gb216) (o := .cells #[.int .i64 a0_0, .int .i64 a0_1, .slice A0_2 l0_2.length c0_2] 24 (0, 0)) (by (with_reducible repeat (first | refine blk_drewN ?_ _ | refine blk_drew ?_ | refine blk_alloc ?_ _)); exact BK216.out) hb); have n2_ := Aside0.mk (blk_below (g := gb217) (o := .cells #[.slice A1_0 l1_0.length c1_0, .slice A1_1 l1_1.length c1_1, .slice A1_2 l1_2.length c1_2] 28 (0, 0)) (by (with_reducible repeat (first | refine blk_drewN ?_ _ | refine blk_drew ?_ | refine blk_alloc ?_ _)); exact BK217.out) hb); have n3_ := Aside0.mk (below_step (by repeat (first | (with_reducible first | exact HB.out | apply below_alloc | apply pw_below_drewN | apply below_drew1 | refine below_set ?_ GE216.out | refine below_set ?_ GE217.out) | exact HB.out)) hb); clear BK216; clear BK217; clear HB; have HO220 := n0_; have BK216 := n1_; have BK217 := n2_; have HB := n3_; clear n0_ n1_ n2_ n3_; clear hb ho21; have hcz22_0 : w20.cell? ⟨gb216, 0, none⟩ = some (.int .i64 a0_0) := (blk_cell BK216.out 0).trans rfl; have hcz22_1 : w20.cell? ⟨gb216, 1, none⟩ = some (.int .i64 a0_1) := (blk_cell BK216.out 1).trans rfl; have hcz22_2 : w20.cell? ⟨gb216, 2, none⟩ = some (.slice A0_2 l0_2.length c0_2) := (blk_cell BK216.out 2).trans rfl; have hfz22_0 := blk_frozen BK216.out 0; have hfz22_1 := blk_frozen BK216.out 1; have hfz22_2 := blk_frozen BK216.out 2) | ((with_reducible refine gate_dst (N := 32) rfl ?_); (try (refine gate_guard (by rfl) ?_; dsimp only)); refine Kd.R_make Kd.bool _ 4 rfl (N := 32) rfl 70 _ _ rfl a0_1 rfl rfl Try.underlying70 (.bool false) 1 info4 rfl (by decide) (by omega) false (ok := fun _ => True) (okp := fun _ => True) rfl (fun _ hk => hk) trivial (of_decide_eq_true (by first | (with_reducible assumption) | assumption)) (Nat.le_trans (Nat.mul_le_mul_right _ (of_decide_eq_true (by first | (with_reducible assumption) | assumption) : a0_1.toNat ≤ 281474976710656)) (by omega)) (Below.refl _ _) (Nat.le_refl _) ?_; intro v222 w23 ho24 hb hg_ hnew_; clear hg_ hnew_; (first | rw [← Ny221.out] at ho24 | (simp only [Int.reduceToNat] at ho24; rw [← Ny221.out] at ho24)); have n0_ := Aside0.mk (Kd.R_elder' (by (with_reducible repeat (first | apply Kd.R_alloc | apply Kd.R_drewN | apply Kd.R_drew)); exact HO220.out) (Kd.R_base ho24) hb); have n1_ := Aside0.mk (Kd.R_lower (Kd.R_new' ho24 (Kd.R_lt (by (with_reducible repeat (first | apply Kd.R_alloc | apply Kd.R_drewN | apply Kd.R_drew)); exact HO220.out))) (below_size (by repeat (first | (with_reducible first | exact HB.out | apply below_alloc | apply pw_below_drewN | apply below_drew1 | refine below_set ?_ GE216.out | refine below_set ?_ GE217.out) | exact HB.out)))); have n2_ := Aside0.mk (blk_below (g := gb216) (o := .cells #[.int .i64 a0_0, .int .i64 a0_1, .slice A0_2 l0_2.length c0_2] 24 (0, 0)) (by (with_reducible repeat (first | refine blk_drewN ?_ _ | refine blk_drew ?_ | refine blk_alloc ?_ _)); exact BK216.out) hb); have n3_ := Aside0.mk (blk_below (g := gb217) (o := .cells #[.slice A1_0 l1_0.length c1_0, .slice A1_1 l1_1.length c1_1, .slice A1_2 l1_2.length c1_2] 28 (0, 0)) (by (with_reducible repeat (first | refine blk_drewN ?_ _ | refine blk_drew ?_ | refine blk_alloc ?_ _)); exact BK217.out) hb); have n4_ := Aside0.mk (below_step (by repeat (first | (with_reducible first | exact HB.out | apply below_alloc | apply pw_below_drewN | apply below_drew1 | refine below_set ?_ GE216.out | refine below_set ?_ GE217.out) | exact HB.out)) hb); clear HO220; clear BK216; clear BK217; clear HB; have HO220 := n0_; have HO223 := n1_; have BK216 := n2_; have BK217 := n3_; have HB := n4_; clear n0_ n1_ n2_ n3_ n4_; clear hb ho24)))
        go_loopg [7] kj2 (fun kq v7 w' => ∃ (x5_2 : List Bool) (x6_2 : List Bool) (x7_2 : Int), v7 = .int .i64 x7_2 ∧ Aside0 (cabstandlaw18_tight.l0 kq x5_2 x6_2 x7_2 a0_0 a0_1 l0_2 l1_0 l1_1 l1_2 = some r) ∧ Aside0 (kq ≤ kj2) ∧ Aside0 (Kd.R Kd.bool 4 w' w.heap.size (fun k_ => some k_ ≠ (v222 : Value).ownBlock) v219 x5_2) ∧ Aside0 (Kd.R Kd.bool 4 w' w.heap.size (fun k_ => some k_ ≠ (v219 : Value).ownBlock) v222 x6_2) ∧ Aside0 (w'.heap[gb216]? = some (.cells #[.int .i64 a0_0, .int .i64 a0_1, (.slice A0_2 l0_2.length c0_2)] 24 (0, 0))) ∧ Aside0 (w'.heap[gb217]? = some (.cells #[(.slice A1_0 l1_0.length c1_0), (.slice A1_1 l1_1.length c1_1), (.slice A1_2 l1_2.length c1_2)] 28 (0, 0))) ∧ Aside0 (Below w.heap.size w w'))
        case atStart => exact ⟨(y218), (y221), (0), (by first | rfl | (simp; done) | (simp [*]; done)), H', ⟨Nat.le_refl _⟩, ⟨by (with_reducible repeat (first | apply Kd.R_alloc | apply Kd.R_drewN | apply Kd.R_drew)); exact Kd.R_mono HO220.out (fun _ hk => hk.2)⟩, ⟨by (with_reducible repeat (first | apply Kd.R_alloc | apply Kd.R_drewN | apply Kd.R_drew)); exact Kd.R_mono HO223.out (fun _ hk => hk.2)⟩, ⟨by (with_reducible repeat (first | refine blk_drewN ?_ _ | refine blk_drew ?_ | refine blk_alloc ?_ _)); exact BK216.out⟩, ⟨by (with_reducible repeat (first | refine blk_drewN ?_ _ | refine blk_drew ?_ | refine blk_alloc ?_ _)); exact BK217.out⟩, ⟨by repeat (first | (with_reducible first | exact HB.out | apply below_alloc | apply pw_below_drewN | apply below_drew1 | refine below_set ?_ GE216.out | refine below_set ?_ GE217.out) | exact HB.out)⟩⟩
        case round =>
         as_aux_lemma =>
         clear H'
         try clear c1
         try clear c2
         try clear p2
         try clear c6
         try clear c6b0
         try clear c6b1
         try clear c7
         try clear c10
         try clear c13
         try clear c14
         try clear c14b0
         try clear c14b1
         try clear c15
         try clear c15b0
         try clear c15b1
         try clear c16
         try clear c16b0
         try clear c16b1
         try clear c17
         try clear c17b0
         try clear c17b1
         try clear c18
         try clear hcz11_0
         try clear hcz11_1
         try clear hcz11_2
         try clear hcz12_0
         try clear hcz12_1
         try clear hcz12_2
         try clear hcz19_0
         try clear hcz19_1
         try clear hcz19_2
         try clear hcz22_0
         try clear hcz22_1
         try clear hcz22_2
         try clear hcz8_0
         try clear hcz8_1
         try clear hcz8_2
         try clear hcz9_0
         try clear hcz9_1
         try clear hcz9_2
         try clear hfz11_0
         try clear hfz11_1
         try clear hfz11_2
         try clear hfz12_0
         try clear hfz12_1
         try clear hfz12_2
         try clear hfz19_0
         try clear hfz19_1
         try clear hfz19_2
         try clear hfz22_0
         try clear hfz22_1
         try clear hfz22_2
         try clear hfz8_0
         try clear hfz8_1
         try clear hfz8_2
         try clear hfz9_0
         try clear hfz9_1
         try clear hfz9_2
         try clear p2
         obtain ⟨x5_2, x6_2, x7_2, rfl, HA, HK2, HO_5, HO_6, BK216, BK217, HB⟩ := hrel
         cases gk with
         | zero => exact absurd HA.out (by simp [cabstandlaw18_tight.l0])
         | succ k2 =>
          have H := HA.out
          clear HA
          simp only [cabstandlaw18_tight.l0] at H
          by_cases c25 : x7_2 < (l1_0.length : Int)
          ·rw [if_pos c25] at H
           have c25b0 : decide (x7_2 < (l1_0.length : Int)) = true := decide_eq_true c25
           clear c25
           by_cases c26 : 0 ≤ x7_2
           ·rw [if_pos c26] at H
            have c26b0 : decide (0 ≤ x7_2) = true := decide_eq_true c26
            clear c26
            have HC27 := Aside0.mk H
            clear H
            have hnb28 := NB217_216.out
            have hnc28 := NB216_217.out
            have hcz29_0 : wr.cell? ⟨gb217, 0, none⟩ = some (.slice A1_0 l1_0.length c1_0) := (blk_cell BK217.out 0).trans rfl
            have hcz29_1 : wr.cell? ⟨gb217, 1, none⟩ = some (.slice A1_1 l1_1.length c1_1) := (blk_cell BK217.out 1).trans rfl
            have hcz29_2 : wr.cell? ⟨gb217, 2, none⟩ = some (.slice A1_2 l1_2.length c1_2) := (blk_cell BK217.out 2).trans rfl
            have hfz29_0 := blk_frozen BK217.out 0
            have hfz29_1 := blk_frozen BK217.out 1
            have hfz29_2 := blk_frozen BK217.out 2
            have p224 : 0 ≤ (x7_2 : Int) := of_decide_eq_true (by first | (with_reducible assumption) | assumption)
            have q224 : x7_2 < (l1_0.length : Int) := of_decide_eq_true (by first | (with_reducible assumption) | assumption)
            obtain ⟨ad224, e224, hx224_0, hx224_1⟩ := at_T50 HR1_0.out x7_2 p224 q224
            cases e224
            replace hx224_0 := (HB.out.cell (World.block_lt_of_cell? w _ hx224_0)).trans hx224_0
            replace hx224_1 := (HB.out.cell (World.block_lt_of_cell? w _ hx224_1)).trans hx224_1
            replace p224 := eq_true p224
            replace q224 := eq_true q224
            go_upto_region 9 with (first | ((with_reducible refine gate_dst (N := 8) rfl ?_); (try (refine gate_guard (by rfl) ?_; dsimp only)); refine box_event ?hg (N := 8) ?hd (cs := #[.int .i64 0, .int .i64 0]) (t := 50) ?hr ?_; (case hd => rfl); (case hg => rfl); (case hr => first | (go_simp; done) | (go_simp; rfl)); intro gb225 hg w30 hbox hb; have n0_ := Aside0.mk (Kd.R_below (by (with_reducible repeat (first | apply Kd.R_alloc | apply Kd.R_drewN | apply Kd.R_drew)); exact HO_5.out) hb); have n1_ := Aside0.mk (Kd.R_below (by (with_reducible repeat (first | apply Kd.R_alloc | apply Kd.R_drewN | apply Kd.R_drew)); exact HO_6.out) hb); have n2_ := Aside0.mk (blk_below (g := gb216) (o := .cells #[.int .i64 a0_0, .int .i64 a0_1, .slice A0_2 l0_2.length c0_2] 24 (0, 0)) (by (with_reducible repeat (first | refine blk_drewN ?_ _ | refine blk_drew ?_ | refine blk_alloc ?_ _)); exact BK216.out) hb); have n3_ := Aside0.mk (blk_below (g := gb217) (o := .cells #[.slice (some ad224) l1_0.length c1_0, .slice A1_1 l1_1.length c1_1, .slice A1_2 l1_2.length c1_2] 28 (0, 0)) (by (with_reducible repeat (first | refine blk_drewN ?_ _ | refine blk_drew ?_ | refine blk_alloc ?_ _)); exact BK217.out) hb); have n4_ := Aside0.mk (below_step (by repeat (first | (with_reducible first | exact HB.out | apply below_alloc | apply pw_below_drewN | apply below_drew1 | refine below_set ?_ GE216.out | refine below_set ?_ GE217.out) | exact HB.out)) hb); have n5_ := Aside0.mk (hbox); have n6_ := Aside0.mk ((by rw [hg]; exact (below_size (by repeat (first | (with_reducible first | exact HB.out | apply below_alloc | apply pw_below_drewN | apply below_drew1 | refine below_set ?_ GE216.out | refine below_set ?_ GE217.out) | exact HB.out))) : w.heap.size ≤ gb225)); have n7_ := Aside0.mk ((by rw [hg]; exact (below_size (by repeat (first | (with_reducible first | exact HB.out | apply below_alloc | apply pw_below_drewN | apply below_drew1 | refine below_set ?_ GE216.out | refine below_set ?_ GE217.out) | exact HB.out))) : w.heap.size ≤ gb225)); have n8_ := Aside0.mk ((by rw [hg]; exact Nat.ne_of_lt (blk_lt (g := gb216) (o := .cells #[.int .i64 a0_0, .int .i64 a0_1, .slice A0_2 l0_2.length c0_2] 24 (0, 0)) (by (with_reducible repeat (first | refine blk_drewN ?_ _ | refine blk_drew ?_ | refine blk_alloc ?_ _)); exact BK216.out)) : gb216 ≠ gb225)); have n9_ := Aside0.mk ((by rw [hg]; exact Nat.ne_of_gt (blk_lt (g := gb216) (o := .cells #[.int .i64 a0_0, .int .i64 a0_1, .slice A0_2 l0_2.length c0_2] 24 (0, 0)) (by (with_reducible repeat (first | refine blk_drewN ?_ _ | refine blk_drew ?_ | refine blk_alloc ?_ _)); exact BK216.out)) : gb225 ≠ gb216)); have n10_ := Aside0.mk ((by rw [hg]; exact Nat.ne_of_lt (blk_lt (g := gb217) (o := .cells #[.slice (some ad224) l1_0.length c1_0, .slice A1_1 l1_1.length c1_1, .slice A1_2 l1_2.length c1_2] 28 (0, 0)) (by (with_reducible repeat (first | refine blk_drewN ?_ _ | refine blk_drew ?_ | refine blk_alloc ?_ _)); exact BK217.out)) : gb217 ≠ gb225)); have n11_ := Aside0.mk ((by rw [hg]; exact Nat.ne_of_gt (blk_lt (g := gb217) (o := .cells #[.slice (some ad224) l1_0.length c1_0, .slice A1_1 l1_1.length c1_1, .slice A1_2 l1_2.length c1_2] 28 (0, 0)) (by (with_reducible repeat (first | refine blk_drewN ?_ _ | refine blk_drew ?_ | refine blk_alloc ?_ _)); exact BK217.out)) : gb225 ≠ gb217)); clear HO_5; clear HO_6; clear BK216; clear BK217; clear HB; have HO_5 := n0_; have HO_6 := n1_; have BK216 := n2_; have BK217 := n3_; have HB := n4_; have BK225 := n5_; have GW225 := n6_; have GE225 := n7_; have NB216_225 := n8_; have NB225_216 := n9_; have NB217_225 := n10_; have NB225_217 := n11_; clear n0_ n1_ n2_ n3_ n4_ n5_ n6_ n7_ n8_ n9_ n10_ n11_; clear hb hbox hg; have hnb31 := NB225_216.out; have hnc31 := NB216_225.out; have hnb32 := NB225_217.out; have hnc32 := NB217_225.out; have hcz33_0 : w30.cell? ⟨gb225, 0, none⟩ = some (.int .i64 0) := (blk_cell BK225.out 0).trans rfl; have hcz33_1 : w30.cell? ⟨gb225, 1, none⟩ = some (.int .i64 0) := (blk_cell BK225.out 1).trans rfl; have hfz33_0 := blk_frozen BK225.out 0; have hfz33_1 := blk_frozen BK225.out 1))
            repeat (go_quiet (first | ((with_reducible refine gate_dst (N := 8) rfl ?_); (try (refine gate_guard (by rfl) ?_; dsimp only)); refine box_event ?hg (N := 8) ?hd (cs := #[.int .i64 0, .int .i64 0]) (t := 50) ?hr ?_; (case hd => rfl); (case hg => rfl); (case hr => first | (go_simp; done) | (go_simp; rfl)); intro gb225 hg w30 hbox hb; have n0_ := Aside0.mk (Kd.R_below (by (with_reducible repeat (first | apply Kd.R_alloc | apply Kd.R_drewN | apply Kd.R_drew)); exact HO_5.out) hb); have n1_ := Aside0.mk (Kd.R_below (by (with_reducible repeat (first | apply Kd.R_alloc | apply Kd.R_drewN | apply Kd.R_drew)); exact HO_6.out) hb); have n2_ := Aside0.mk (blk_below (g := gb216) (o := .cells #[.int .i64 a0_0, .int .i64 a0_1, .slice A0_2 l0_2.length c0_2] 24 (0, 0)) (by (with_reducible repeat (first | refine blk_drewN ?_ _ | refine blk_drew ?_ | refine blk_alloc ?_ _)); exact BK216.out) hb); have n3_ := Aside0.mk (blk_below (g := gb217) (o := .cells #[.slice (some ad224) l1_0.length c1_0, .slice A1_1 l1_1.length c1_1, .slice A1_2 l1_2.length c1_2] 28 (0, 0)) (by (with_reducible repeat (first | refine blk_drewN ?_ _ | refine blk_drew ?_ | refine blk_alloc ?_ _)); exact BK217.out) hb); have n4_ := Aside0.mk (below_step (by repeat (first | (with_reducible first | exact HB.out | apply below_alloc | apply pw_below_drewN | apply below_drew1 | refine below_set ?_ GE216.out | refine below_set ?_ GE217.out) | exact HB.out)) hb); have n5_ := Aside0.mk (hbox); have n6_ := Aside0.mk ((by rw [hg]; exact (below_size (by repeat (first | (with_reducible first | exact HB.out | apply below_alloc | apply pw_below_drewN | apply below_drew1 | refine below_set ?_ GE216.out | refine below_set ?_ GE217.out) | exact HB.out))) : w.heap.size ≤ gb225)); have n7_ := Aside0.mk ((by rw [hg]; exact (below_size (by repeat (first | (with_reducible first | exact HB.out | apply below_alloc | apply pw_below_drewN | apply below_drew1 | refine below_set ?_ GE216.out | refine below_set ?_ GE217.out) | exact HB.out))) : w.heap.size ≤ gb225)); have n8_ := Aside0.mk ((by rw [hg]; exact Nat.ne_of_lt (blk_lt (g := gb216) (o := .cells #[.int .i64 a0_0, .int .i64 a0_1, .slice A0_2 l0_2.length c0_2] 24 (0, 0)) (by (with_reducible repeat (first | refine blk_drewN ?_ _ | refine blk_drew ?_ | refine blk_alloc ?_ _)); exact BK216.out)) : gb216 ≠ gb225)); have n9_ := Aside0.mk ((by rw [hg]; exact Nat.ne_of_gt (blk_lt (g := gb216) (o := .cells #[.int .i64 a0_0, .int .i64 a0_1, .slice A0_2 l0_2.length c0_2] 24 (0, 0)) (by (with_reducible repeat (first | refine blk_drewN ?_ _ | refine blk_drew ?_ | refine blk_alloc ?_ _)); exact BK216.out)) : gb225 ≠ gb216)); have n10_ := Aside0.mk ((by rw [hg]; exact Nat.ne_of_lt (blk_lt (g := gb217) (o := .cells #[.slice (some ad224) l1_0.length c1_0, .slice A1_1 l1_1.length c1_1, .slice A1_2 l1_2.length c1_2] 28 (0, 0)) (by (with_reducible repeat (first | refine blk_drewN ?_ _ | refine blk_drew ?_ | refine blk_alloc ?_ _)); exact BK217.out)) : gb217 ≠ gb225)); have n11_ := Aside0.mk ((by rw [hg]; exact Nat.ne_of_gt (blk_lt (g := gb217) (o := .cells #[.slice (some ad224) l1_0.length c1_0, .slice A1_1 l1_1.length c1_1, .slice A1_2 l1_2.length c1_2] 28 (0, 0)) (by (with_reducible repeat (first | refine blk_drewN ?_ _ | refine blk_drew ?_ | refine blk_alloc ?_ _)); exact BK217.out)) : gb225 ≠ gb217)); clear HO_5; clear HO_6; clear BK216; clear BK217; clear HB; have HO_5 := n0_; have HO_6 := n1_; have BK216 := n2_; have BK217 := n3_; have HB := n4_; have BK225 := n5_; have GW225 := n6_; have GE225 := n7_; have NB216_225 := n8_; have NB225_216 := n9_; have NB217_225 := n10_; have NB225_217 := n11_; clear n0_ n1_ n2_ n3_ n4_ n5_ n6_ n7_ n8_ n9_ n10_ n11_; clear hb hbox hg; have hnb31 := NB225_216.out; have hnc31 := NB216_225.out; have hnb32 := NB225_217.out; have hnc32 := NB217_225.out; have hcz33_0 : w30.cell? ⟨gb225, 0, none⟩ = some (.int .i64 0) := (blk_cell BK225.out 0).trans rfl; have hcz33_1 : w30.cell? ⟨gb225, 1, none⟩ = some (.int .i64 0) := (blk_cell BK225.out 1).trans rfl; have hfz33_0 := blk_frozen BK225.out 0; have hfz33_1 := blk_frozen BK225.out 1)); go_upto_region 9 with (first | ((with_reducible refine gate_dst (N := 8) rfl ?_); (try (refine gate_guard (by rfl) ?_; dsimp only)); refine box_event ?hg (N := 8) ?hd (cs := #[.int .i64 0, .int .i64 0]) (t := 50) ?hr ?_; (case hd => rfl); (case hg => rfl); (case hr => first | (go_simp; done) | (go_simp; rfl)); intro gb225 hg w30 hbox hb; have n0_ := Aside0.mk (Kd.R_below (by (with_reducible repeat (first | apply Kd.R_alloc | apply Kd.R_drewN | apply Kd.R_drew)); exact HO_5.out) hb); have n1_ := Aside0.mk (Kd.R_below (by (with_reducible repeat (first | apply Kd.R_alloc | apply Kd.R_drewN | apply Kd.R_drew)); exact HO_6.out) hb); have n2_ := Aside0.mk (blk_below (g := gb216) (o := .cells #[.int .i64 a0_0, .int .i64 a0_1, .slice A0_2 l0_2.length c0_2] 24 (0, 0)) (by (with_reducible repeat (first | refine blk_drewN ?_ _ | refine blk_drew ?_ | refine blk_alloc ?_ _)); exact BK216.out) hb); have n3_ := Aside0.mk (blk_below (g := gb217) (o := .cells #[.slice (some ad224) l1_0.length c1_0, .slice A1_1 l1_1.length c1_1, .slice A1_2 l1_2.length c1_2] 28 (0, 0)) (by (with_reducible repeat (first | refine blk_drewN ?_ _ | refine blk_drew ?_ | refine blk_alloc ?_ _)); exact BK217.out) hb); have n4_ := Aside0.mk (below_step (by repeat (first | (with_reducible first | exact HB.out | apply below_alloc | apply pw_below_drewN | apply below_drew1 | refine below_set ?_ GE216.out | refine below_set ?_ GE217.out) | exact HB.out)) hb); have n5_ := Aside0.mk (hbox); have n6_ := Aside0.mk ((by rw [hg]; exact (below_size (by repeat (first | (with_reducible first | exact HB.out | apply below_alloc | apply pw_below_drewN | apply below_drew1 | refine below_set ?_ GE216.out | refine below_set ?_ GE217.out) | exact HB.out))) : w.heap.size ≤ gb225)); have n7_ := Aside0.mk ((by rw [hg]; exact (below_size (by repeat (first | (with_reducible first | exact HB.out | apply below_alloc | apply pw_below_drewN | apply below_drew1 | refine below_set ?_ GE216.out | refine below_set ?_ GE217.out) | exact HB.out))) : w.heap.size ≤ gb225)); have n8_ := Aside0.mk ((by rw [hg]; exact Nat.ne_of_lt (blk_lt (g := gb216) (o := .cells #[.int .i64 a0_0, .int .i64 a0_1, .slice A0_2 l0_2.length c0_2] 24 (0, 0)) (by (with_reducible repeat (first | refine blk_drewN ?_ _ | refine blk_drew ?_ | refine blk_alloc ?_ _)); exact BK216.out)) : gb216 ≠ gb225)); have n9_ := Aside0.mk ((by rw [hg]; exact Nat.ne_of_gt (blk_lt (g := gb216) (o := .cells #[.int .i64 a0_0, .int .i64 a0_1, .slice A0_2 l0_2.length c0_2] 24 (0, 0)) (by (with_reducible repeat (first | refine blk_drewN ?_ _ | refine blk_drew ?_ | refine blk_alloc ?_ _)); exact BK216.out)) : gb225 ≠ gb216)); have n10_ := Aside0.mk ((by rw [hg]; exact Nat.ne_of_lt (blk_lt (g := gb217) (o := .cells #[.slice (some ad224) l1_0.length c1_0, .slice A1_1 l1_1.length c1_1, .slice A1_2 l1_2.length c1_2] 28 (0, 0)) (by (with_reducible repeat (first | refine blk_drewN ?_ _ | refine blk_drew ?_ | refine blk_alloc ?_ _)); exact BK217.out)) : gb217 ≠ gb225)); have n11_ := Aside0.mk ((by rw [hg]; exact Nat.ne_of_gt (blk_lt (g := gb217) (o := .cells #[.slice (some ad224) l1_0.length c1_0, .slice A1_1 l1_1.length c1_1, .slice A1_2 l1_2.length c1_2] 28 (0, 0)) (by (with_reducible repeat (first | refine blk_drewN ?_ _ | refine blk_drew ?_ | refine blk_alloc ?_ _)); exact BK217.out)) : gb225 ≠ gb217)); clear HO_5; clear HO_6; clear BK216; clear BK217; clear HB; have HO_5 := n0_; have HO_6 := n1_; have BK216 := n2_; have BK217 := n3_; have HB := n4_; have BK225 := n5_; have GW225 := n6_; have GE225 := n7_; have NB216_225 := n8_; have NB225_216 := n9_; have NB217_225 := n10_; have NB225_217 := n11_; clear n0_ n1_ n2_ n3_ n4_ n5_ n6_ n7_ n8_ n9_ n10_ n11_; clear hb hbox hg; have hnb31 := NB225_216.out; have hnc31 := NB216_225.out; have hnb32 := NB225_217.out; have hnc32 := NB217_225.out; have hcz33_0 : w30.cell? ⟨gb225, 0, none⟩ = some (.int .i64 0) := (blk_cell BK225.out 0).trans rfl; have hcz33_1 : w30.cell? ⟨gb225, 1, none⟩ = some (.int .i64 0) := (blk_cell BK225.out 1).trans rfl; have hfz33_0 := blk_frozen BK225.out 0; have hfz33_1 := blk_frozen BK225.out 1)))
            (try simp only [Act.put, List.setIfInBounds_toArray, List.set_cons_zero, List.set_cons_succ])
            go_cut [96] (fun v96 wc => ∃ (kq : Nat) (x96_26 : Bool), v96 = .bool x96_26 ∧ Aside0 (cabstandlaw18_tight.j2 kq x5_2 x6_2 x7_2 x96_26 a0_0 a0_1 l0_2 l1_0 l1_1 l1_2 ((rd_T50 l1_0 x7_2).f0) ((rd_T50 l1_0 x7_2).f1) = some r) ∧ Aside0 (kq ≤ k2) ∧ Aside0 (Kd.R Kd.bool 4 wc w.heap.size (fun k_ => some k_ ≠ (v222 : Value).ownBlock) v219 x5_2) ∧ Aside0 (Kd.R Kd.bool 4 wc w.heap.size (fun k_ => some k_ ≠ (v219 : Value).ownBlock) v222 x6_2) ∧ Aside0 (wc.heap[gb216]? = some (.cells #[.int .i64 a0_0, .int .i64 a0_1, (.slice A0_2 l0_2.length c0_2)] 24 (0, 0))) ∧ Aside0 (wc.heap[gb217]? = some (.cells #[(.slice (some ad224) l1_0.length c1_0), (.slice A1_1 l1_1.length c1_1), (.slice A1_2 l1_2.length c1_2)] 28 (0, 0))) ∧ Aside0 (wc.heap[gb225]? = some (.cells #[.int .i64 ((rd_T50 l1_0 x7_2).f0), .int .i64 ((rd_T50 l1_0 x7_2).f1)] 50 (0, 0))) ∧ Aside0 (Below w.heap.size w wc))
            case first =>
             as_aux_lemma =>
             have H := HC27.out
             clear HC27
             by_cases c34 : ((rd_T50 l1_0 x7_2).f0) < 0
             ·rw [if_pos c34] at H
              have c34b0 : decide (((rd_T50 l1_0 x7_2).f0) < 0) = true := decide_eq_true c34
              clear c34
              (first | rw [c34b0] | (simp only [i64_w, i32_w]; rw [c34b0]) | skip)
              have H' := Aside0.mk H
              clear H
              have hnb35 := NB225_216.out
              have hnc35 := NB216_225.out
              have hnb36 := NB225_217.out
              have hnc36 := NB217_225.out
              have hcz37_0 : w30.cell? ⟨gb225, 0, none⟩ = some (.int .i64 0) := (blk_cell BK225.out 0).trans rfl
              have hcz37_1 : w30.cell? ⟨gb225, 1, none⟩ = some (.int .i64 0) := (blk_cell BK225.out 1).trans rfl
              have hfz37_0 := blk_frozen BK225.out 0
              have hfz37_1 := blk_frozen BK225.out 1
              go_wp2
              repeat (go_quiet (fail); try go_wp2)
              go_meet
              case rel => exact ⟨_, (true), (by first | rfl | (simp; done) | (simp [*]; done)), H', ⟨by have := HJ2.out; have := HK2.out; first | omega | exact Nat.le_refl _⟩, ⟨by (with_reducible repeat (first | apply Kd.R_alloc | apply Kd.R_drewN | apply Kd.R_drew)); exact Kd.R_mono (Kd.R_far (p := ⟨gb225, 1, none⟩) (Kd.R_far (p := ⟨gb225, 0, none⟩) (Kd.R_types HO_5.out BK225.out (by decide)) (fun _ hk => hk.2) (.int .i64 ((rd_T50 l1_0 x7_2).f0))) (fun _ hk => hk.2) (.int .i64 ((rd_T50 l1_0 x7_2).f1))) (fun _ hk => hk.1)⟩, ⟨by (with_reducible repeat (first | apply Kd.R_alloc | apply Kd.R_drewN | apply Kd.R_drew)); exact Kd.R_mono (Kd.R_far (p := ⟨gb225, 1, none⟩) (Kd.R_far (p := ⟨gb225, 0, none⟩) (Kd.R_types HO_6.out BK225.out (by decide)) (fun _ hk => hk.2) (.int .i64 ((rd_T50 l1_0 x7_2).f0))) (fun _ hk => hk.2) (.int .i64 ((rd_T50 l1_0 x7_2).f1))) (fun _ hk => hk.1)⟩, ⟨by (with_reducible repeat (first | refine blk_drewN ?_ _ | refine blk_drew ?_ | refine blk_alloc ?_ _)); refine blk_far ?_ NB216_225.out _; (with_reducible repeat (first | refine blk_drewN ?_ _ | refine blk_drew ?_ | refine blk_alloc ?_ _)); refine blk_far ?_ NB216_225.out _; (with_reducible repeat (first | refine blk_drewN ?_ _ | refine blk_drew ?_ | refine blk_alloc ?_ _)); exact BK216.out⟩, ⟨by (with_reducible repeat (first | refine blk_drewN ?_ _ | refine blk_drew ?_ | refine blk_alloc ?_ _)); refine blk_far ?_ NB217_225.out _; (with_reducible repeat (first | refine blk_drewN ?_ _ | refine blk_drew ?_ | refine blk_alloc ?_ _)); refine blk_far ?_ NB217_225.out _; (with_reducible repeat (first | refine blk_drewN ?_ _ | refine blk_drew ?_ | refine blk_alloc ?_ _)); exact BK217.out⟩, ⟨by (with_reducible repeat (first | refine blk_drewN ?_ _ | refine blk_drew ?_ | refine blk_alloc ?_ _)); refine blk_put (cs := #[.int .i64 ((rd_T50 l1_0 x7_2).f0), .int .i64 0]) ?_ 1 _ rfl; (with_reducible repeat (first | refine blk_drewN ?_ _ | refine blk_drew ?_ | refine blk_alloc ?_ _)); refine blk_put (cs := #[.int .i64 0, .int .i64 0]) ?_ 0 _ rfl; (with_reducible repeat (first | refine blk_drewN ?_ _ | refine blk_drew ?_ | refine blk_alloc ?_ _)); exact BK225.out⟩, ⟨by repeat (first | (with_reducible first | exact HB.out | apply below_alloc | apply pw_below_drewN | apply below_drew1 | refine below_set ?_ GE216.out | refine below_set ?_ GE217.out | refine below_set ?_ GE225.out) | exact HB.out)⟩⟩
             ·rw [if_neg c34] at H
              have c34b0 : decide (((rd_T50 l1_0 x7_2).f0) < 0) = false := decide_eq_false c34
              clear c34
              (first | rw [c34b0] | (simp only [i64_w, i32_w]; rw [c34b0]) | skip)
              by_cases c38 : ((rd_T50 l1_0 x7_2).f0) ≥ a0_0
              ·rw [if_pos c38] at H
               have c38b0 : decide (a0_0 ≤ ((rd_T50 l1_0 x7_2).f0)) = true := decide_eq_true c38
               clear c38
               have H' := Aside0.mk H
               clear H
               have hnb39 := NB225_216.out
               have hnc39 := NB216_225.out
               have hnb40 := NB225_217.out
               have hnc40 := NB217_225.out
               have hcz41_0 : w30.cell? ⟨gb225, 0, none⟩ = some (.int .i64 0) := (blk_cell BK225.out 0).trans rfl
               have hcz41_1 : w30.cell? ⟨gb225, 1, none⟩ = some (.int .i64 0) := (blk_cell BK225.out 1).trans rfl
               have hfz41_0 := blk_frozen BK225.out 0
               have hfz41_1 := blk_frozen BK225.out 1
               have hnb42 := NB216_217.out
               have hnc42 := NB217_216.out
               have hcz43_0 : w30.cell? ⟨gb216, 0, none⟩ = some (.int .i64 a0_0) := (blk_cell BK216.out 0).trans rfl
               have hcz43_1 : w30.cell? ⟨gb216, 1, none⟩ = some (.int .i64 a0_1) := (blk_cell BK216.out 1).trans rfl
               have hcz43_2 : w30.cell? ⟨gb216, 2, none⟩ = some (.slice A0_2 l0_2.length c0_2) := (blk_cell BK216.out 2).trans rfl
               have hfz43_0 := blk_frozen BK216.out 0
               have hfz43_1 := blk_frozen BK216.out 1
               have hfz43_2 := blk_frozen BK216.out 2
               go_wp2
               repeat (go_quiet (fail); try go_wp2)
               go_meet
               case rel => exact ⟨_, (true), (by first | rfl | (simp; done) | (simp [*]; done)), H', ⟨by have := HJ2.out; have := HK2.out; first | omega | exact Nat.le_refl _⟩, ⟨by (with_reducible repeat (first | apply Kd.R_alloc | apply Kd.R_drewN | apply Kd.R_drew)); exact Kd.R_mono (Kd.R_far (p := ⟨gb225, 1, none⟩) (Kd.R_far (p := ⟨gb225, 0, none⟩) (Kd.R_types HO_5.out BK225.out (by decide)) (fun _ hk => hk.2) (.int .i64 ((rd_T50 l1_0 x7_2).f0))) (fun _ hk => hk.2) (.int .i64 ((rd_T50 l1_0 x7_2).f1))) (fun _ hk => hk.1)⟩, ⟨by (with_reducible repeat (first | apply Kd.R_alloc | apply Kd.R_drewN | apply Kd.R_drew)); exact Kd.R_mono (Kd.R_far (p := ⟨gb225, 1, none⟩) (Kd.R_far (p := ⟨gb225, 0, none⟩) (Kd.R_types HO_6.out BK225.out (by decide)) (fun _ hk => hk.2) (.int .i64 ((rd_T50 l1_0 x7_2).f0))) (fun _ hk => hk.2) (.int .i64 ((rd_T50 l1_0 x7_2).f1))) (fun _ hk => hk.1)⟩, ⟨by (with_reducible repeat (first | refine blk_drewN ?_ _ | refine blk_drew ?_ | refine blk_alloc ?_ _)); refine blk_far ?_ NB216_225.out _; (with_reducible repeat (first | refine blk_drewN ?_ _ | refine blk_drew ?_ | refine blk_alloc ?_ _)); refine blk_far ?_ NB216_225.out _; (with_reducible repeat (first | refine blk_drewN ?_ _ | refine blk_drew ?_ | refine blk_alloc ?_ _)); exact BK216.out⟩, ⟨by (with_reducible repeat (first | refine blk_drewN ?_ _ | refine blk_drew ?_ | refine blk_alloc ?_ _)); refine blk_far ?_ NB217_225.out _; (with_reducible repeat (first | refine blk_drewN ?_ _ | refine blk_drew ?_ | refine blk_alloc ?_ _)); refine blk_far ?_ NB217_225.out _; (with_reducible repeat (first | refine blk_drewN ?_ _ | refine blk_drew ?_ | refine blk_alloc ?_ _)); exact BK217.out⟩, ⟨by (with_reducible repeat (first | refine blk_drewN ?_ _ | refine blk_drew ?_ | refine blk_alloc ?_ _)); refine blk_put (cs := #[.int .i64 ((rd_T50 l1_0 x7_2).f0), .int .i64 0]) ?_ 1 _ rfl; (with_reducible repeat (first | refine blk_drewN ?_ _ | refine blk_drew ?_ | refine blk_alloc ?_ _)); refine blk_put (cs := #[.int .i64 0, .int .i64 0]) ?_ 0 _ rfl; (with_reducible repeat (first | refine blk_drewN ?_ _ | refine blk_drew ?_ | refine blk_alloc ?_ _)); exact BK225.out⟩, ⟨by repeat (first | (with_reducible first | exact HB.out | apply below_alloc | apply pw_below_drewN | apply below_drew1 | refine below_set ?_ GE216.out | refine below_set ?_ GE217.out | refine below_set ?_ GE225.out) | exact HB.out)⟩⟩
              ·rw [if_neg c38] at H
               have c38b0 : decide (a0_0 ≤ ((rd_T50 l1_0 x7_2).f0)) = false := decide_eq_false c38
               clear c38
               by_cases c44 : ((rd_T50 l1_0 x7_2).f1) < 0
               ·rw [if_pos c44] at H
                have c44b0 : decide (((rd_T50 l1_0 x7_2).f1) < 0) = true := decide_eq_true c44
                clear c44
                have H' := Aside0.mk H
                clear H
                have hnb45 := NB225_216.out
                have hnc45 := NB216_225.out
                have hnb46 := NB225_217.out
                have hnc46 := NB217_225.out
                have hcz47_0 : w30.cell? ⟨gb225, 0, none⟩ = some (.int .i64 0) := (blk_cell BK225.out 0).trans rfl
                have hcz47_1 : w30.cell? ⟨gb225, 1, none⟩ = some (.int .i64 0) := (blk_cell BK225.out 1).trans rfl
                have hfz47_0 := blk_frozen BK225.out 0
                have hfz47_1 := blk_frozen BK225.out 1
                have hnb48 := NB216_217.out
                have hnc48 := NB217_216.out
                have hcz49_0 : w30.cell? ⟨gb216, 0, none⟩ = some (.int .i64 a0_0) := (blk_cell BK216.out 0).trans rfl
                have hcz49_1 : w30.cell? ⟨gb216, 1, none⟩ = some (.int .i64 a0_1) := (blk_cell BK216.out 1).trans rfl
                have hcz49_2 : w30.cell? ⟨gb216, 2, none⟩ = some (.slice A0_2 l0_2.length c0_2) := (blk_cell BK216.out 2).trans rfl
                have hfz49_0 := blk_frozen BK216.out 0
                have hfz49_1 := blk_frozen BK216.out 1
                have hfz49_2 := blk_frozen BK216.out 2
                go_wp2
                repeat (go_quiet (fail); try go_wp2)
                go_meet
                case rel => exact ⟨_, (true), (by first | rfl | (simp; done) | (simp [*]; done)), H', ⟨by have := HJ2.out; have := HK2.out; first | omega | exact Nat.le_refl _⟩, ⟨by (with_reducible repeat (first | apply Kd.R_alloc | apply Kd.R_drewN | apply Kd.R_drew)); exact Kd.R_mono (Kd.R_far (p := ⟨gb225, 1, none⟩) (Kd.R_far (p := ⟨gb225, 0, none⟩) (Kd.R_types HO_5.out BK225.out (by decide)) (fun _ hk => hk.2) (.int .i64 ((rd_T50 l1_0 x7_2).f0))) (fun _ hk => hk.2) (.int .i64 ((rd_T50 l1_0 x7_2).f1))) (fun _ hk => hk.1)⟩, ⟨by (with_reducible repeat (first | apply Kd.R_alloc | apply Kd.R_drewN | apply Kd.R_drew)); exact Kd.R_mono (Kd.R_far (p := ⟨gb225, 1, none⟩) (Kd.R_far (p := ⟨gb225, 0, none⟩) (Kd.R_types HO_6.out BK225.out (by decide)) (fun _ hk => hk.2) (.int .i64 ((rd_T50 l1_0 x7_2).f0))) (fun _ hk => hk.2) (.int .i64 ((rd_T50 l1_0 x7_2).f1))) (fun _ hk => hk.1)⟩, ⟨by (with_reducible repeat (first | refine blk_drewN ?_ _ | refine blk_drew ?_ | refine blk_alloc ?_ _)); refine blk_far ?_ NB216_225.out _; (with_reducible repeat (first | refine blk_drewN ?_ _ | refine blk_drew ?_ | refine blk_alloc ?_ _)); refine blk_far ?_ NB216_225.out _; (with_reducible repeat (first | refine blk_drewN ?_ _ | refine blk_drew ?_ | refine blk_alloc ?_ _)); exact BK216.out⟩, ⟨by (with_reducible repeat (first | refine blk_drewN ?_ _ | refine blk_drew ?_ | refine blk_alloc ?_ _)); refine blk_far ?_ NB217_225.out _; (with_reducible repeat (first | refine blk_drewN ?_ _ | refine blk_drew ?_ | refine blk_alloc ?_ _)); refine blk_far ?_ NB217_225.out _; (with_reducible repeat (first | refine blk_drewN ?_ _ | refine blk_drew ?_ | refine blk_alloc ?_ _)); exact BK217.out⟩, ⟨by (with_reducible repeat (first | refine blk_drewN ?_ _ | refine blk_drew ?_ | refine blk_alloc ?_ _)); refine blk_put (cs := #[.int .i64 ((rd_T50 l1_0 x7_2).f0), .int .i64 0]) ?_ 1 _ rfl; (with_reducible repeat (first | refine blk_drewN ?_ _ | refine blk_drew ?_ | refine blk_alloc ?_ _)); refine blk_put (cs := #[.int .i64 0, .int .i64 0]) ?_ 0 _ rfl; (with_reducible repeat (first | refine blk_drewN ?_ _ | refine blk_drew ?_ | refine blk_alloc ?_ _)); exact BK225.out⟩, ⟨by repeat (first | (with_reducible first | exact HB.out | apply below_alloc | apply pw_below_drewN | apply below_drew1 | refine below_set ?_ GE216.out | refine below_set ?_ GE217.out | refine below_set ?_ GE225.out) | exact HB.out)⟩⟩
               ·rw [if_neg c44] at H
                have c44b0 : decide (((rd_T50 l1_0 x7_2).f1) < 0) = false := decide_eq_false c44
                clear c44
                by_cases c50 : ((rd_T50 l1_0 x7_2).f1) ≥ a0_1
                ·rw [if_pos c50] at H
                 have c50b0 : decide (a0_1 ≤ ((rd_T50 l1_0 x7_2).f1)) = true := decide_eq_true c50
                 clear c50
                 have H' := Aside0.mk H
                 clear H
                 have hnb51 := NB225_216.out
                 have hnc51 := NB216_225.out
                 have hnb52 := NB225_217.out
                 have hnc52 := NB217_225.out
                 have hcz53_0 : w30.cell? ⟨gb225, 0, none⟩ = some (.int .i64 0) := (blk_cell BK225.out 0).trans rfl
                 have hcz53_1 : w30.cell? ⟨gb225, 1, none⟩ = some (.int .i64 0) := (blk_cell BK225.out 1).trans rfl
                 have hfz53_0 := blk_frozen BK225.out 0
                 have hfz53_1 := blk_frozen BK225.out 1
                 have hnb54 := NB216_217.out
                 have hnc54 := NB217_216.out
                 have hcz55_0 : w30.cell? ⟨gb216, 0, none⟩ = some (.int .i64 a0_0) := (blk_cell BK216.out 0).trans rfl
                 have hcz55_1 : w30.cell? ⟨gb216, 1, none⟩ = some (.int .i64 a0_1) := (blk_cell BK216.out 1).trans rfl
                 have hcz55_2 : w30.cell? ⟨gb216, 2, none⟩ = some (.slice A0_2 l0_2.length c0_2) := (blk_cell BK216.out 2).trans rfl
                 have hfz55_0 := blk_frozen BK216.out 0
                 have hfz55_1 := blk_frozen BK216.out 1
                 have hfz55_2 := blk_frozen BK216.out 2
                 go_wp2
                 repeat (go_quiet (fail); try go_wp2)
                 go_meet
                 case rel => exact ⟨_, (true), (by first | rfl | (simp; done) | (simp [*]; done)), H', ⟨by have := HJ2.out; have := HK2.out; first | omega | exact Nat.le_refl _⟩, ⟨by (with_reducible repeat (first | apply Kd.R_alloc | apply Kd.R_drewN | apply Kd.R_drew)); exact Kd.R_mono (Kd.R_far (p := ⟨gb225, 1, none⟩) (Kd.R_far (p := ⟨gb225, 0, none⟩) (Kd.R_types HO_5.out BK225.out (by decide)) (fun _ hk => hk.2) (.int .i64 ((rd_T50 l1_0 x7_2).f0))) (fun _ hk => hk.2) (.int .i64 ((rd_T50 l1_0 x7_2).f1))) (fun _ hk => hk.1)⟩, ⟨by (with_reducible repeat (first | apply Kd.R_alloc | apply Kd.R_drewN | apply Kd.R_drew)); exact Kd.R_mono (Kd.R_far (p := ⟨gb225, 1, none⟩) (Kd.R_far (p := ⟨gb225, 0, none⟩) (Kd.R_types HO_6.out BK225.out (by decide)) (fun _ hk => hk.2) (.int .i64 ((rd_T50 l1_0 x7_2).f0))) (fun _ hk => hk.2) (.int .i64 ((rd_T50 l1_0 x7_2).f1))) (fun _ hk => hk.1)⟩, ⟨by (with_reducible repeat (first | refine blk_drewN ?_ _ | refine blk_drew ?_ | refine blk_alloc ?_ _)); refine blk_far ?_ NB216_225.out _; (with_reducible repeat (first | refine blk_drewN ?_ _ | refine blk_drew ?_ | refine blk_alloc ?_ _)); refine blk_far ?_ NB216_225.out _; (with_reducible repeat (first | refine blk_drewN ?_ _ | refine blk_drew ?_ | refine blk_alloc ?_ _)); exact BK216.out⟩, ⟨by (with_reducible repeat (first | refine blk_drewN ?_ _ | refine blk_drew ?_ | refine blk_alloc ?_ _)); refine blk_far ?_ NB217_225.out _; (with_reducible repeat (first | refine blk_drewN ?_ _ | refine blk_drew ?_ | refine blk_alloc ?_ _)); refine blk_far ?_ NB217_225.out _; (with_reducible repeat (first | refine blk_drewN ?_ _ | refine blk_drew ?_ | refine blk_alloc ?_ _)); exact BK217.out⟩, ⟨by (with_reducible repeat (first | refine blk_drewN ?_ _ | refine blk_drew ?_ | refine blk_alloc ?_ _)); refine blk_put (cs := #[.int .i64 ((rd_T50 l1_0 x7_2).f0), .int .i64 0]) ?_ 1 _ rfl; (with_reducible repeat (first | refine blk_drewN ?_ _ | refine blk_drew ?_ | refine blk_alloc ?_ _)); refine blk_put (cs := #[.int .i64 0, .int .i64 0]) ?_ 0 _ rfl; (with_reducible repeat (first | refine blk_drewN ?_ _ | refine blk_drew ?_ | refine blk_alloc ?_ _)); exact BK225.out⟩, ⟨by repeat (first | (with_reducible first | exact HB.out | apply below_alloc | apply pw_below_drewN | apply below_drew1 | refine below_set ?_ GE216.out | refine below_set ?_ GE217.out | refine below_set ?_ GE225.out) | exact HB.out)⟩⟩
                ·rw [if_neg c50] at H
                 have c50b0 : decide (a0_1 ≤ ((rd_T50 l1_0 x7_2).f1)) = false := decide_eq_false c50
                 clear c50
                 by_cases c56 : 0 ≤ ((rd_T50 l1_0 x7_2).f0)
                 ·rw [if_pos c56] at H
                  have c56b0 : decide (0 ≤ ((rd_T50 l1_0 x7_2).f0)) = true := decide_eq_true c56
                  clear c56
                  by_cases c57 : ((rd_T50 l1_0 x7_2).f0) < (x5_2.length : Int)
                  ·rw [if_pos c57] at H
                   have c57b0 : decide (((rd_T50 l1_0 x7_2).f0) < (x5_2.length : Int)) = true := decide_eq_true c57
                   clear c57
                   obtain ⟨bq58, hbq58⟩ : ∃ b_ : Bool, b_ = (rdOf false x5_2 ((rd_T50 l1_0 x7_2).f0)) := ⟨_, rfl⟩
                   replace H : (if bq58 = true then (cabstandlaw18_tight.j2 k2 x5_2 x6_2 x7_2 true a0_0 a0_1 l0_2 l1_0 l1_1 l1_2 ((rd_T50 l1_0 x7_2).f0) ((rd_T50 l1_0 x7_2).f1)) else (if 0 ≤ ((rd_T50 l1_0 x7_2).f1) then (if ((rd_T50 l1_0 x7_2).f1) < (x6_2.length : Int) then (if rdOf false x6_2 ((rd_T50 l1_0 x7_2).f1) = true then (cabstandlaw18_tight.j2 k2 x5_2 x6_2 x7_2 true a0_0 a0_1 l0_2 l1_0 l1_1 l1_2 ((rd_T50 l1_0 x7_2).f0) ((rd_T50 l1_0 x7_2).f1)) else (if x7_2 > 0 then (if 0 ≤ (wrap64 (x7_2 - 1)) then (if (wrap64 (x7_2 - 1)) < (l1_0.length : Int) then (cabstandlaw18_tight.j2 k2 x5_2 x6_2 x7_2 (decide (((rd_T50 l1_0 (wrap64 (x7_2 - 1))).f0) ≥ ((rd_T50 l1_0 x7_2).f0))) a0_0 a0_1 l0_2 l1_0 l1_1 l1_2 ((rd_T50 l1_0 x7_2).f0) ((rd_T50 l1_0 x7_2).f1)) else (none)) else (none)) else (cabstandlaw18_tight.j2 k2 x5_2 x6_2 x7_2 false a0_0 a0_1 l0_2 l1_0 l1_1 l1_2 ((rd_T50 l1_0 x7_2).f0) ((rd_T50 l1_0 x7_2).f1)))) else (none)) else (none))) = some r := by rw [← hbq58] at H; exact H
                   have Nbq58 := Aside0.mk hbq58
                   clear hbq58
                   by_cases c59 : bq58 = true
                   ·subst c59
                    have H1 : (cabstandlaw18_tight.j2 k2 x5_2 x6_2 x7_2 true a0_0 a0_1 l0_2 l1_0 l1_1 l1_2 ((rd_T50 l1_0 x7_2).f0) ((rd_T50 l1_0 x7_2).f1)) = some r := by rw [if_pos rfl] at H; exact H
                    clear H
                    have H := H1
                    clear H1
                    have H' := Aside0.mk H
                    clear H
                    have hnb60 := NB225_216.out
                    have hnc60 := NB216_225.out
                    have hnb61 := NB225_217.out
                    have hnc61 := NB217_225.out
                    have hcz62_0 : w30.cell? ⟨gb225, 0, none⟩ = some (.int .i64 0) := (blk_cell BK225.out 0).trans rfl
                    have hcz62_1 : w30.cell? ⟨gb225, 1, none⟩ = some (.int .i64 0) := (blk_cell BK225.out 1).trans rfl
                    have hfz62_0 := blk_frozen BK225.out 0
                    have hfz62_1 := blk_frozen BK225.out 1
                    have hnb63 := NB216_217.out
                    have hnc63 := NB217_216.out
                    have hcz64_0 : w30.cell? ⟨gb216, 0, none⟩ = some (.int .i64 a0_0) := (blk_cell BK216.out 0).trans rfl
                    have hcz64_1 : w30.cell? ⟨gb216, 1, none⟩ = some (.int .i64 a0_1) := (blk_cell BK216.out 1).trans rfl
                    have hcz64_2 : w30.cell? ⟨gb216, 2, none⟩ = some (.slice A0_2 l0_2.length c0_2) := (blk_cell BK216.out 2).trans rfl
                    have hfz64_0 := blk_frozen BK216.out 0
                    have hfz64_1 := blk_frozen BK216.out 1
                    have hfz64_2 := blk_frozen BK216.out 2
                    obtain ⟨Ao65, co65, eo65⟩ := Kd.R_slice HO_5.out
                    subst eo65
                    have p226 : 0 ≤ (((rd_T50 l1_0 x7_2).f0) : Int) := of_decide_eq_true (by first | (with_reducible assumption) | assumption)
                    have q226 : ((rd_T50 l1_0 x7_2).f0) < (x5_2.length : Int) := of_decide_eq_true (by first | (with_reducible assumption) | assumption)
                    obtain ⟨ad226, e226, hx226_0⟩ := Kd.at_bool (Kd.R_reads' HO_5.out).2.2 ((rd_T50 l1_0 x7_2).f0) p226 q226
                    (try rw [← Nbq58.out] at hx226_0)
                    cases e226
                    have hn226_0 : ad226.block ≠ gb225 := Kd.own_blk (Kd.R_ne HO_5.out BK225.out (by decide))
                    have hn226_1 : ad226.block ≠ gb225 := Kd.own_blk (Kd.R_ne HO_5.out BK225.out (by decide))
                    replace hx226_0 := (cell_far (p := ⟨gb225, 0, none⟩) (by first | (rw [add_block]; exact hn226_0) | (show (Addr.add _ _).block ≠ _; rw [add_block]; exact hn226_0) | exact hn226_0) (.int .i64 ((rd_T50 l1_0 x7_2).f0))).trans hx226_0
                    replace hx226_0 := (cell_far (p := ⟨gb225, 1, none⟩) (by first | (rw [add_block]; exact hn226_1) | (show (Addr.add _ _).block ≠ _; rw [add_block]; exact hn226_1) | exact hn226_1) (.int .i64 ((rd_T50 l1_0 x7_2).f1))).trans hx226_0
                    (try have hy226_0 := fun (n_ : Nat) => (show ((((w30.drewN n_).setCell ⟨gb225, 0, none⟩ (.int .i64 ((rd_T50 l1_0 x7_2).f0))).setCell ⟨gb225, 1, none⟩ (.int .i64 ((rd_T50 l1_0 x7_2).f1)))).cell? _ = some _ from hx226_0))
                    clear hn226_0
                    clear hn226_1
                    replace p226 := eq_true p226
                    replace q226 := eq_true q226
                    go_wp2
                    repeat (go_quiet (fail); try go_wp2)
                    go_meet
                    case rel => exact ⟨_, (true), (by first | rfl | (simp; done) | (simp [*]; done)), H', ⟨by have := HJ2.out; have := HK2.out; first | omega | exact Nat.le_refl _⟩, ⟨by (with_reducible repeat (first | apply Kd.R_alloc | apply Kd.R_drewN | apply Kd.R_drew)); exact Kd.R_mono (Kd.R_far (p := ⟨gb225, 1, none⟩) (Kd.R_far (p := ⟨gb225, 0, none⟩) (Kd.R_types HO_5.out BK225.out (by decide)) (fun _ hk => hk.2) (.int .i64 ((rd_T50 l1_0 x7_2).f0))) (fun _ hk => hk.2) (.int .i64 ((rd_T50 l1_0 x7_2).f1))) (fun _ hk => hk.1)⟩, ⟨by (with_reducible repeat (first | apply Kd.R_alloc | apply Kd.R_drewN | apply Kd.R_drew)); exact Kd.R_mono (Kd.R_far (p := ⟨gb225, 1, none⟩) (Kd.R_far (p := ⟨gb225, 0, none⟩) (Kd.R_types HO_6.out BK225.out (by decide)) (fun _ hk => hk.2) (.int .i64 ((rd_T50 l1_0 x7_2).f0))) (fun _ hk => hk.2) (.int .i64 ((rd_T50 l1_0 x7_2).f1))) (fun _ hk => hk.1)⟩, ⟨by (with_reducible repeat (first | refine blk_drewN ?_ _ | refine blk_drew ?_ | refine blk_alloc ?_ _)); refine blk_far ?_ NB216_225.out _; (with_reducible repeat (first | refine blk_drewN ?_ _ | refine blk_drew ?_ | refine blk_alloc ?_ _)); refine blk_far ?_ NB216_225.out _; (with_reducible repeat (first | refine blk_drewN ?_ _ | refine blk_drew ?_ | refine blk_alloc ?_ _)); exact BK216.out⟩, ⟨by (with_reducible repeat (first | refine blk_drewN ?_ _ | refine blk_drew ?_ | refine blk_alloc ?_ _)); refine blk_far ?_ NB217_225.out _; (with_reducible repeat (first | refine blk_drewN ?_ _ | refine blk_drew ?_ | refine blk_alloc ?_ _)); refine blk_far ?_ NB217_225.out _; (with_reducible repeat (first | refine blk_drewN ?_ _ | refine blk_drew ?_ | refine blk_alloc ?_ _)); exact BK217.out⟩, ⟨by (with_reducible repeat (first | refine blk_drewN ?_ _ | refine blk_drew ?_ | refine blk_alloc ?_ _)); refine blk_put (cs := #[.int .i64 ((rd_T50 l1_0 x7_2).f0), .int .i64 0]) ?_ 1 _ rfl; (with_reducible repeat (first | refine blk_drewN ?_ _ | refine blk_drew ?_ | refine blk_alloc ?_ _)); refine blk_put (cs := #[.int .i64 0, .int .i64 0]) ?_ 0 _ rfl; (with_reducible repeat (first | refine blk_drewN ?_ _ | refine blk_drew ?_ | refine blk_alloc ?_ _)); exact BK225.out⟩, ⟨by repeat (first | (with_reducible first | exact HB.out | apply below_alloc | apply pw_below_drewN | apply below_drew1 | refine below_set ?_ GE216.out | refine below_set ?_ GE217.out | refine below_set ?_ GE225.out) | exact HB.out)⟩⟩
                   ·replace c59 := Bool.eq_false_iff.mpr c59
                    subst c59
                    have H1 : (if 0 ≤ ((rd_T50 l1_0 x7_2).f1) then (if ((rd_T50 l1_0 x7_2).f1) < (x6_2.length : Int) then (if rdOf false x6_2 ((rd_T50 l1_0 x7_2).f1) = true then (cabstandlaw18_tight.j2 k2 x5_2 x6_2 x7_2 true a0_0 a0_1 l0_2 l1_0 l1_1 l1_2 ((rd_T50 l1_0 x7_2).f0) ((rd_T50 l1_0 x7_2).f1)) else (if x7_2 > 0 then (if 0 ≤ (wrap64 (x7_2 - 1)) then (if (wrap64 (x7_2 - 1)) < (l1_0.length : Int) then (cabstandlaw18_tight.j2 k2 x5_2 x6_2 x7_2 (decide (((rd_T50 l1_0 (wrap64 (x7_2 - 1))).f0) ≥ ((rd_T50 l1_0 x7_2).f0))) a0_0 a0_1 l0_2 l1_0 l1_1 l1_2 ((rd_T50 l1_0 x7_2).f0) ((rd_T50 l1_0 x7_2).f1)) else (none)) else (none)) else (cabstandlaw18_tight.j2 k2 x5_2 x6_2 x7_2 false a0_0 a0_1 l0_2 l1_0 l1_1 l1_2 ((rd_T50 l1_0 x7_2).f0) ((rd_T50 l1_0 x7_2).f1)))) else (none)) else (none)) = some r := by rw [if_neg (show ¬ (false = true) by decide)] at H; exact H
                    clear H
                    have H := H1
                    clear H1
                    by_cases c66 : 0 ≤ ((rd_T50 l1_0 x7_2).f1)
                    ·rw [if_pos c66] at H
                     have c66b0 : decide (0 ≤ ((rd_T50 l1_0 x7_2).f1)) = true := decide_eq_true c66
                     clear c66
                     by_cases c67 : ((rd_T50 l1_0 x7_2).f1) < (x6_2.length : Int)
                     ·rw [if_pos c67] at H
                      have c67b0 : decide (((rd_T50 l1_0 x7_2).f1) < (x6_2.length : Int)) = true := decide_eq_true c67
                      clear c67
                      obtain ⟨bq68, hbq68⟩ : ∃ b_ : Bool, b_ = (rdOf false x6_2 ((rd_T50 l1_0 x7_2).f1)) := ⟨_, rfl⟩
                      replace H : (if bq68 = true then (cabstandlaw18_tight.j2 k2 x5_2 x6_2 x7_2 true a0_0 a0_1 l0_2 l1_0 l1_1 l1_2 ((rd_T50 l1_0 x7_2).f0) ((rd_T50 l1_0 x7_2).f1)) else (if x7_2 > 0 then (if 0 ≤ (wrap64 (x7_2 - 1)) then (if (wrap64 (x7_2 - 1)) < (l1_0.length : Int) then (cabstandlaw18_tight.j2 k2 x5_2 x6_2 x7_2 (decide (((rd_T50 l1_0 (wrap64 (x7_2 - 1))).f0) ≥ ((rd_T50 l1_0 x7_2).f0))) a0_0 a0_1 l0_2 l1_0 l1_1 l1_2 ((rd_T50 l1_0 x7_2).f0) ((rd_T50 l1_0 x7_2).f1)) else (none)) else (none)) else (cabstandlaw18_tight.j2 k2 x5_2 x6_2 x7_2 false a0_0 a0_1 l0_2 l1_0 l1_1 l1_2 ((rd_T50 l1_0 x7_2).f0) ((rd_T50 l1_0 x7_2).f1)))) = some r := by rw [← hbq68] at H; exact H
                      have Nbq68 := Aside0.mk hbq68
                      clear hbq68
                      by_cases c69 : bq68 = true
                      ·subst c69
                       have H1 : (cabstandlaw18_tight.j2 k2 x5_2 x6_2 x7_2 true a0_0 a0_1 l0_2 l1_0 l1_1 l1_2 ((rd_T50 l1_0 x7_2).f0) ((rd_T50 l1_0 x7_2).f1)) = some r := by rw [if_pos rfl] at H; exact H
                       clear H
                       have H := H1
                       clear H1
                       have H' := Aside0.mk H
                       clear H
                       have hnb70 := NB225_216.out
                       have hnc70 := NB216_225.out
                       have hnb71 := NB225_217.out
                       have hnc71 := NB217_225.out
                       have hcz72_0 : w30.cell? ⟨gb225, 0, none⟩ = some (.int .i64 0) := (blk_cell BK225.out 0).trans rfl
                       have hcz72_1 : w30.cell? ⟨gb225, 1, none⟩ = some (.int .i64 0) := (blk_cell BK225.out 1).trans rfl
                       have hfz72_0 := blk_frozen BK225.out 0
                       have hfz72_1 := blk_frozen BK225.out 1
                       have hnb73 := NB216_217.out
                       have hnc73 := NB217_216.out
                       have hcz74_0 : w30.cell? ⟨gb216, 0, none⟩ = some (.int .i64 a0_0) := (blk_cell BK216.out 0).trans rfl
                       have hcz74_1 : w30.cell? ⟨gb216, 1, none⟩ = some (.int .i64 a0_1) := (blk_cell BK216.out 1).trans rfl
                       have hcz74_2 : w30.cell? ⟨gb216, 2, none⟩ = some (.slice A0_2 l0_2.length c0_2) := (blk_cell BK216.out 2).trans rfl
                       have hfz74_0 := blk_frozen BK216.out 0
                       have hfz74_1 := blk_frozen BK216.out 1
                       have hfz74_2 := blk_frozen BK216.out 2
                       obtain ⟨Ao75, co75, eo75⟩ := Kd.R_slice HO_5.out
                       subst eo75
                       have p226 : 0 ≤ (((rd_T50 l1_0 x7_2).f0) : Int) := of_decide_eq_true (by first | (with_reducible assumption) | assumption)
                       have q226 : ((rd_T50 l1_0 x7_2).f0) < (x5_2.length : Int) := of_decide_eq_true (by first | (with_reducible assumption) | assumption)
                       obtain ⟨ad226, e226, hx226_0⟩ := Kd.at_bool (Kd.R_reads' HO_5.out).2.2 ((rd_T50 l1_0 x7_2).f0) p226 q226
                       (try rw [← Nbq58.out] at hx226_0)
                       (try rw [← Nbq68.out] at hx226_0)
                       cases e226
                       have hn226_0 : ad226.block ≠ gb225 := Kd.own_blk (Kd.R_ne HO_5.out BK225.out (by decide))
                       have hn226_1 : ad226.block ≠ gb225 := Kd.own_blk (Kd.R_ne HO_5.out BK225.out (by decide))
                       replace hx226_0 := (cell_far (p := ⟨gb225, 0, none⟩) (by first | (rw [add_block]; exact hn226_0) | (show (Addr.add _ _).block ≠ _; rw [add_block]; exact hn226_0) | exact hn226_0) (.int .i64 ((rd_T50 l1_0 x7_2).f0))).trans hx226_0
                       replace hx226_0 := (cell_far (p := ⟨gb225, 1, none⟩) (by first | (rw [add_block]; exact hn226_1) | (show (Addr.add _ _).block ≠ _; rw [add_block]; exact hn226_1) | exact hn226_1) (.int .i64 ((rd_T50 l1_0 x7_2).f1))).trans hx226_0
                       (try have hy226_0 := fun (n_ : Nat) => (show ((((w30.drewN n_).setCell ⟨gb225, 0, none⟩ (.int .i64 ((rd_T50 l1_0 x7_2).f0))).setCell ⟨gb225, 1, none⟩ (.int .i64 ((rd_T50 l1_0 x7_2).f1)))).cell? _ = some _ from hx226_0))
                       clear hn226_0
                       clear hn226_1
                       replace p226 := eq_true p226
                       replace q226 := eq_true q226
                       obtain ⟨Ao76, co76, eo76⟩ := Kd.R_slice HO_6.out
                       subst eo76
                       have p227 : 0 ≤ (((rd_T50 l1_0 x7_2).f1) : Int) := of_decide_eq_true (by first | (with_reducible assumption) | assumption)
                       have q227 : ((rd_T50 l1_0 x7_2).f1) < (x6_2.length : Int) := of_decide_eq_true (by first | (with_reducible assumption) | assumption)
                       obtain ⟨ad227, e227, hx227_0⟩ := Kd.at_bool (Kd.R_reads' HO_6.out).2.2 ((rd_T50 l1_0 x7_2).f1) p227 q227
                       (try rw [← Nbq58.out] at hx227_0)
                       (try rw [← Nbq68.out] at hx227_0)
                       cases e227
                       have hn227_0 : ad227.block ≠ gb225 := Kd.own_blk (Kd.R_ne HO_6.out BK225.out (by decide))
                       have hn227_1 : ad227.block ≠ gb225 := Kd.own_blk (Kd.R_ne HO_6.out BK225.out (by decide))
                       replace hx227_0 := (cell_far (p := ⟨gb225, 0, none⟩) (by first | (rw [add_block]; exact hn227_0) | (show (Addr.add _ _).block ≠ _; rw [add_block]; exact hn227_0) | exact hn227_0) (.int .i64 ((rd_T50 l1_0 x7_2).f0))).trans hx227_0
                       replace hx227_0 := (cell_far (p := ⟨gb225, 1, none⟩) (by first | (rw [add_block]; exact hn227_1) | (show (Addr.add _ _).block ≠ _; rw [add_block]; exact hn227_1) | exact hn227_1) (.int .i64 ((rd_T50 l1_0 x7_2).f1))).trans hx227_0
                       (try have hy227_0 := fun (n_ : Nat) => (show ((((w30.drewN n_).setCell ⟨gb225, 0, none⟩ (.int .i64 ((rd_T50 l1_0 x7_2).f0))).setCell ⟨gb225, 1, none⟩ (.int .i64 ((rd_T50 l1_0 x7_2).f1)))).cell? _ = some _ from hx227_0))
                       clear hn227_0
                       clear hn227_1
                       replace p227 := eq_true p227
                       replace q227 := eq_true q227
                       go_wp2
                       repeat (go_quiet (fail); try go_wp2)
                       go_meet
                       case rel => exact ⟨_, (true), (by first | rfl | (simp; done) | (simp [*]; done)), H', ⟨by have := HJ2.out; have := HK2.out; first | omega | exact Nat.le_refl _⟩, ⟨by (with_reducible repeat (first | apply Kd.R_alloc | apply Kd.R_drewN | apply Kd.R_drew)); exact Kd.R_mono (Kd.R_far (p := ⟨gb225, 1, none⟩) (Kd.R_far (p := ⟨gb225, 0, none⟩) (Kd.R_types HO_5.out BK225.out (by decide)) (fun _ hk => hk.2) (.int .i64 ((rd_T50 l1_0 x7_2).f0))) (fun _ hk => hk.2) (.int .i64 ((rd_T50 l1_0 x7_2).f1))) (fun _ hk => hk.1)⟩, ⟨by (with_reducible repeat (first | apply Kd.R_alloc | apply Kd.R_drewN | apply Kd.R_drew)); exact Kd.R_mono (Kd.R_far (p := ⟨gb225, 1, none⟩) (Kd.R_far (p := ⟨gb225, 0, none⟩) (Kd.R_types HO_6.out BK225.out (by decide)) (fun _ hk => hk.2) (.int .i64 ((rd_T50 l1_0 x7_2).f0))) (fun _ hk => hk.2) (.int .i64 ((rd_T50 l1_0 x7_2).f1))) (fun _ hk => hk.1)⟩, ⟨by (with_reducible repeat (first | refine blk_drewN ?_ _ | refine blk_drew ?_ | refine blk_alloc ?_ _)); refine blk_far ?_ NB216_225.out _; (with_reducible repeat (first | refine blk_drewN ?_ _ | refine blk_drew ?_ | refine blk_alloc ?_ _)); refine blk_far ?_ NB216_225.out _; (with_reducible repeat (first | refine blk_drewN ?_ _ | refine blk_drew ?_ | refine blk_alloc ?_ _)); exact BK216.out⟩, ⟨by (with_reducible repeat (first | refine blk_drewN ?_ _ | refine blk_drew ?_ | refine blk_alloc ?_ _)); refine blk_far ?_ NB217_225.out _; (with_reducible repeat (first | refine blk_drewN ?_ _ | refine blk_drew ?_ | refine blk_alloc ?_ _)); refine blk_far ?_ NB217_225.out _; (with_reducible repeat (first | refine blk_drewN ?_ _ | refine blk_drew ?_ | refine blk_alloc ?_ _)); exact BK217.out⟩, ⟨by (with_reducible repeat (first | refine blk_drewN ?_ _ | refine blk_drew ?_ | refine blk_alloc ?_ _)); refine blk_put (cs := #[.int .i64 ((rd_T50 l1_0 x7_2).f0), .int .i64 0]) ?_ 1 _ rfl; (with_reducible repeat (first | refine blk_drewN ?_ _ | refine blk_drew ?_ | refine blk_alloc ?_ _)); refine blk_put (cs := #[.int .i64 0, .int .i64 0]) ?_ 0 _ rfl; (with_reducible repeat (first | refine blk_drewN ?_ _ | refine blk_drew ?_ | refine blk_alloc ?_ _)); exact BK225.out⟩, ⟨by repeat (first | (with_reducible first | exact HB.out | apply below_alloc | apply pw_below_drewN | apply below_drew1 | refine below_set ?_ GE216.out | refine below_set ?_ GE217.out | refine below_set ?_ GE225.out) | exact HB.out)⟩⟩
                      ·replace c69 := Bool.eq_false_iff.mpr c69
                       subst c69
                       have H1 : (if x7_2 > 0 then (if 0 ≤ (wrap64 (x7_2 - 1)) then (if (wrap64 (x7_2 - 1)) < (l1_0.length : Int) then (cabstandlaw18_tight.j2 k2 x5_2 x6_2 x7_2 (decide (((rd_T50 l1_0 (wrap64 (x7_2 - 1))).f0) ≥ ((rd_T50 l1_0 x7_2).f0))) a0_0 a0_1 l0_2 l1_0 l1_1 l1_2 ((rd_T50 l1_0 x7_2).f0) ((rd_T50 l1_0 x7_2).f1)) else (none)) else (none)) else (cabstandlaw18_tight.j2 k2 x5_2 x6_2 x7_2 false a0_0 a0_1 l0_2 l1_0 l1_1 l1_2 ((rd_T50 l1_0 x7_2).f0) ((rd_T50 l1_0 x7_2).f1))) = some r := by rw [if_neg (show ¬ (false = true) by decide)] at H; exact H
                       clear H
                       have H := H1
                       clear H1
                       by_cases c77 : x7_2 > 0
                       ·rw [if_pos c77] at H
                        have c77b0 : decide (0 < x7_2) = true := decide_eq_true c77
                        clear c77
                        obtain ⟨ji78, hji78⟩ : ∃ j_ : Int, (wrap64 (x7_2 - 1)) = j_ := ⟨_, rfl⟩
                        replace H : (if 0 ≤ (ji78) then (if (ji78) < (l1_0.length : Int) then (cabstandlaw18_tight.j2 k2 x5_2 x6_2 x7_2 (decide (((rd_T50 l1_0 (ji78)).f0) ≥ ((rd_T50 l1_0 x7_2).f0))) a0_0 a0_1 l0_2 l1_0 l1_1 l1_2 ((rd_T50 l1_0 x7_2).f0) ((rd_T50 l1_0 x7_2).f1)) else (none)) else (none)) = some r := by first | (rw [hji78] at H; exact H) | (simp only [hji78] at H ⊢; exact H)
                        have hji78w : (IntKind.i64.wrap (x7_2 - 1)) = ji78 := (i64_w _).trans hji78
                        by_cases c79 : 0 ≤ (ji78)
                        ·rw [if_pos c79] at H
                         have c79b0 : decide (0 ≤ (ji78)) = true := decide_eq_true c79
                         clear c79
                         by_cases c80 : (ji78) < (l1_0.length : Int)
                         ·rw [if_pos c80] at H
                          have c80b0 : decide ((ji78) < (l1_0.length : Int)) = true := decide_eq_true c80
                          clear c80
                          have H' := Aside0.mk H
                          clear H
                          have hnb81 := NB225_216.out
                          have hnc81 := NB216_225.out
                          have hnb82 := NB225_217.out
                          have hnc82 := NB217_225.out
                          have hcz83_0 : w30.cell? ⟨gb225, 0, none⟩ = some (.int .i64 0) := (blk_cell BK225.out 0).trans rfl
                          have hcz83_1 : w30.cell? ⟨gb225, 1, none⟩ = some (.int .i64 0) := (blk_cell BK225.out 1).trans rfl
                          have hfz83_0 := blk_frozen BK225.out 0
                          have hfz83_1 := blk_frozen BK225.out 1
                          have hnb84 := NB216_217.out
                          have hnc84 := NB217_216.out
                          have hcz85_0 : w30.cell? ⟨gb216, 0, none⟩ = some (.int .i64 a0_0) := (blk_cell BK216.out 0).trans rfl
                          have hcz85_1 : w30.cell? ⟨gb216, 1, none⟩ = some (.int .i64 a0_1) := (blk_cell BK216.out 1).trans rfl
                          have hcz85_2 : w30.cell? ⟨gb216, 2, none⟩ = some (.slice A0_2 l0_2.length c0_2) := (blk_cell BK216.out 2).trans rfl
                          have hfz85_0 := blk_frozen BK216.out 0
                          have hfz85_1 := blk_frozen BK216.out 1
                          have hfz85_2 := blk_frozen BK216.out 2
                          obtain ⟨Ao86, co86, eo86⟩ := Kd.R_slice HO_5.out
                          subst eo86
                          have p226 : 0 ≤ (((rd_T50 l1_0 x7_2).f0) : Int) := of_decide_eq_true (by first | (with_reducible assumption) | assumption)
                          have q226 : ((rd_T50 l1_0 x7_2).f0) < (x5_2.length : Int) := of_decide_eq_true (by first | (with_reducible assumption) | assumption)
                          obtain ⟨ad226, e226, hx226_0⟩ := Kd.at_bool (Kd.R_reads' HO_5.out).2.2 ((rd_T50 l1_0 x7_2).f0) p226 q226
                          (try rw [← Nbq58.out] at hx226_0)
                          (try rw [← Nbq68.out] at hx226_0)
                          cases e226
                          have hn226_0 : ad226.block ≠ gb225 := Kd.own_blk (Kd.R_ne HO_5.out BK225.out (by decide))
                          have hn226_1 : ad226.block ≠ gb225 := Kd.own_blk (Kd.R_ne HO_5.out BK225.out (by decide))
                          replace hx226_0 := (cell_far (p := ⟨gb225, 0, none⟩) (by first | (rw [add_block]; exact hn226_0) | (show (Addr.add _ _).block ≠ _; rw [add_block]; exact hn226_0) | exact hn226_0) (.int .i64 ((rd_T50 l1_0 x7_2).f0))).trans hx226_0
                          replace hx226_0 := (cell_far (p := ⟨gb225, 1, none⟩) (by first | (rw [add_block]; exact hn226_1) | (show (Addr.add _ _).block ≠ _; rw [add_block]; exact hn226_1) | exact hn226_1) (.int .i64 ((rd_T50 l1_0 x7_2).f1))).trans hx226_0
                          (try have hy226_0 := fun (n_ : Nat) => (show ((((w30.drewN n_).setCell ⟨gb225, 0, none⟩ (.int .i64 ((rd_T50 l1_0 x7_2).f0))).setCell ⟨gb225, 1, none⟩ (.int .i64 ((rd_T50 l1_0 x7_2).f1)))).cell? _ = some _ from hx226_0))
                          clear hn226_0
                          clear hn226_1
                          replace p226 := eq_true p226
                          replace q226 := eq_true q226
                          obtain ⟨Ao87, co87, eo87⟩ := Kd.R_slice HO_6.out
                          subst eo87
                          have p227 : 0 ≤ (((rd_T50 l1_0 x7_2).f1) : Int) := of_decide_eq_true (by first | (with_reducible assumption) | assumption)
                          have q227 : ((rd_T50 l1_0 x7_2).f1) < (x6_2.length : Int) := of_decide_eq_true (by first | (with_reducible assumption) | assumption)
                          obtain ⟨ad227, e227, hx227_0⟩ := Kd.at_bool (Kd.R_reads' HO_6.out).2.2 ((rd_T50 l1_0 x7_2).f1) p227 q227
                          (try rw [← Nbq58.out] at hx227_0)
                          (try rw [← Nbq68.out] at hx227_0)
                          cases e227
                          have hn227_0 : ad227.block ≠ gb225 := Kd.own_blk (Kd.R_ne HO_6.out BK225.out (by decide))
                          have hn227_1 : ad227.block ≠ gb225 := Kd.own_blk (Kd.R_ne HO_6.out BK225.out (by decide))
                          replace hx227_0 := (cell_far (p := ⟨gb225, 0, none⟩) (by first | (rw [add_block]; exact hn227_0) | (show (Addr.add _ _).block ≠ _; rw [add_block]; exact hn227_0) | exact hn227_0) (.int .i64 ((rd_T50 l1_0 x7_2).f0))).trans hx227_0
                          replace hx227_0 := (cell_far (p := ⟨gb225, 1, none⟩) (by first | (rw [add_block]; exact hn227_1) | (show (Addr.add _ _).block ≠ _; rw [add_block]; exact hn227_1) | exact hn227_1) (.int .i64 ((rd_T50 l1_0 x7_2).f1))).trans hx227_0
                          (try have hy227_0 := fun (n_ : Nat) => (show ((((w30.drewN n_).setCell ⟨gb225, 0, none⟩ (.int .i64 ((rd_T50 l1_0 x7_2).f0))).setCell ⟨gb225, 1, none⟩ (.int .i64 ((rd_T50 l1_0 x7_2).f1)))).cell? _ = some _ from hx227_0))
                          clear hn227_0
                          clear hn227_1
                          replace p227 := eq_true p227
                          replace q227 := eq_true q227
                          have hcz88_0 : w30.cell? ⟨gb217, 0, none⟩ = some (.slice (some ad224) l1_0.length c1_0) := (blk_cell BK217.out 0).trans rfl
                          have hcz88_1 : w30.cell? ⟨gb217, 1, none⟩ = some (.slice A1_1 l1_1.length c1_1) := (blk_cell BK217.out 1).trans rfl
                          have hcz88_2 : w30.cell? ⟨gb217, 2, none⟩ = some (.slice A1_2 l1_2.length c1_2) := (blk_cell BK217.out 2).trans rfl
                          have hfz88_0 := blk_frozen BK217.out 0
                          have hfz88_1 := blk_frozen BK217.out 1
                          have hfz88_2 := blk_frozen BK217.out 2
                          have p228 : 0 ≤ ((ji78) : Int) := of_decide_eq_true (by first | (with_reducible assumption) | assumption)
                          have q228 : (ji78) < (l1_0.length : Int) := of_decide_eq_true (by first | (with_reducible assumption) | assumption)
                          obtain ⟨ad228, e228, hx228_0, hx228_1⟩ := at_T50 HR1_0.out (ji78) p228 q228
                          obtain rfl : ad224 = ad228 := (by injection e228)
                          have hn228_0 : ad224.block ≠ gb225 := Nat.ne_of_lt (Nat.lt_of_lt_of_le (by have := World.block_lt_of_cell? _ _ hx228_0; first | rwa [add_block] at this | exact this) GW225.out)
                          have hn228_1 : ad224.block ≠ gb225 := Nat.ne_of_lt (Nat.lt_of_lt_of_le (by have := World.block_lt_of_cell? _ _ hx228_0; first | rwa [add_block] at this | exact this) GW225.out)
                          replace hx228_0 := (HB.out.cell (World.block_lt_of_cell? w _ hx228_0)).trans hx228_0
                          replace hx228_1 := (HB.out.cell (World.block_lt_of_cell? w _ hx228_1)).trans hx228_1
                          replace hx228_0 := (cell_far (p := ⟨gb225, 0, none⟩) (by first | (rw [add_block]; exact hn228_0) | (show (Addr.add _ _).block ≠ _; rw [add_block]; exact hn228_0) | exact hn228_0) (.int .i64 ((rd_T50 l1_0 x7_2).f0))).trans hx228_0
                          replace hx228_1 := (cell_far (p := ⟨gb225, 0, none⟩) (by first | (rw [add_block]; exact hn228_0) | (show (Addr.add _ _).block ≠ _; rw [add_block]; exact hn228_0) | exact hn228_0) (.int .i64 ((rd_T50 l1_0 x7_2).f0))).trans hx228_1
                          replace hx228_0 := (cell_far (p := ⟨gb225, 1, none⟩) (by first | (rw [add_block]; exact hn228_1) | (show (Addr.add _ _).block ≠ _; rw [add_block]; exact hn228_1) | exact hn228_1) (.int .i64 ((rd_T50 l1_0 x7_2).f1))).trans hx228_0
                          replace hx228_1 := (cell_far (p := ⟨gb225, 1, none⟩) (by first | (rw [add_block]; exact hn228_1) | (show (Addr.add _ _).block ≠ _; rw [add_block]; exact hn228_1) | exact hn228_1) (.int .i64 ((rd_T50 l1_0 x7_2).f1))).trans hx228_1
                          (try have hy228_0 := fun (n_ : Nat) => (show ((((w30.drewN n_).setCell ⟨gb225, 0, none⟩ (.int .i64 ((rd_T50 l1_0 x7_2).f0))).setCell ⟨gb225, 1, none⟩ (.int .i64 ((rd_T50 l1_0 x7_2).f1)))).cell? _ = some _ from hx228_0))
                          (try have hy228_1 := fun (n_ : Nat) => (show ((((w30.drewN n_).setCell ⟨gb225, 0, none⟩ (.int .i64 ((rd_T50 l1_0 x7_2).f0))).setCell ⟨gb225, 1, none⟩ (.int .i64 ((rd_T50 l1_0 x7_2).f1)))).cell? _ = some _ from hx228_1))
                          clear hn228_0
                          clear hn228_1
                          replace p228 := eq_true p228
                          replace q228 := eq_true q228
                          go_wp2
                          repeat (go_quiet (fail); try go_wp2)
                          go_meet
                          case rel => exact ⟨_, (decide (((rd_T50 l1_0 (ji78)).f0) ≥ ((rd_T50 l1_0 x7_2).f0))), (by first | rfl | (simp; done) | (simp only [← hji78] <;> (first | rfl | simp)) | (simp [*]; done)), H', ⟨by have := HJ2.out; have := HK2.out; first | omega | exact Nat.le_refl _⟩, ⟨by (with_reducible repeat (first | apply Kd.R_alloc | apply Kd.R_drewN | apply Kd.R_drew)); exact Kd.R_mono (Kd.R_far (p := ⟨gb225, 1, none⟩) (Kd.R_far (p := ⟨gb225, 0, none⟩) (Kd.R_types HO_5.out BK225.out (by decide)) (fun _ hk => hk.2) (.int .i64 ((rd_T50 l1_0 x7_2).f0))) (fun _ hk => hk.2) (.int .i64 ((rd_T50 l1_0 x7_2).f1))) (fun _ hk => hk.1)⟩, ⟨by (with_reducible repeat (first | apply Kd.R_alloc | apply Kd.R_drewN | apply Kd.R_drew)); exact Kd.R_mono (Kd.R_far (p := ⟨gb225, 1, none⟩) (Kd.R_far (p := ⟨gb225, 0, none⟩) (Kd.R_types HO_6.out BK225.out (by decide)) (fun _ hk => hk.2) (.int .i64 ((rd_T50 l1_0 x7_2).f0))) (fun _ hk => hk.2) (.int .i64 ((rd_T50 l1_0 x7_2).f1))) (fun _ hk => hk.1)⟩, ⟨by (with_reducible repeat (first | refine blk_drewN ?_ _ | refine blk_drew ?_ | refine blk_alloc ?_ _)); refine blk_far ?_ NB216_225.out _; (with_reducible repeat (first | refine blk_drewN ?_ _ | refine blk_drew ?_ | refine blk_alloc ?_ _)); refine blk_far ?_ NB216_225.out _; (with_reducible repeat (first | refine blk_drewN ?_ _ | refine blk_drew ?_ | refine blk_alloc ?_ _)); exact BK216.out⟩, ⟨by (with_reducible repeat (first | refine blk_drewN ?_ _ | refine blk_drew ?_ | refine blk_alloc ?_ _)); refine blk_far ?_ NB217_225.out _; (with_reducible repeat (first | refine blk_drewN ?_ _ | refine blk_drew ?_ | refine blk_alloc ?_ _)); refine blk_far ?_ NB217_225.out _; (with_reducible repeat (first | refine blk_drewN ?_ _ | refine blk_drew ?_ | refine blk_alloc ?_ _)); exact BK217.out⟩, ⟨by (with_reducible repeat (first | refine blk_drewN ?_ _ | refine blk_drew ?_ | refine blk_alloc ?_ _)); refine blk_put (cs := #[.int .i64 ((rd_T50 l1_0 x7_2).f0), .int .i64 0]) ?_ 1 _ rfl; (with_reducible repeat (first | refine blk_drewN ?_ _ | refine blk_drew ?_ | refine blk_alloc ?_ _)); refine blk_put (cs := #[.int .i64 0, .int .i64 0]) ?_ 0 _ rfl; (with_reducible repeat (first | refine blk_drewN ?_ _ | refine blk_drew ?_ | refine blk_alloc ?_ _)); exact BK225.out⟩, ⟨by repeat (first | (with_reducible first | exact HB.out | apply below_alloc | apply pw_below_drewN | apply below_drew1 | refine below_set ?_ GE216.out | refine below_set ?_ GE217.out | refine below_set ?_ GE225.out) | exact HB.out)⟩⟩
                         ·rw [if_neg c80] at H
                          exact absurd H (by simp)
                        ·rw [if_neg c79] at H
                         exact absurd H (by simp)
                       ·rw [if_neg c77] at H
                        have c77b0 : decide (0 < x7_2) = false := decide_eq_false c77
                        clear c77
                        have H' := Aside0.mk H
                        clear H
                        have hnb89 := NB225_216.out
                        have hnc89 := NB216_225.out
                        have hnb90 := NB225_217.out
                        have hnc90 := NB217_225.out
                        have hcz91_0 : w30.cell? ⟨gb225, 0, none⟩ = some (.int .i64 0) := (blk_cell BK225.out 0).trans rfl
                        have hcz91_1 : w30.cell? ⟨gb225, 1, none⟩ = some (.int .i64 0) := (blk_cell BK225.out 1).trans rfl
                        have hfz91_0 := blk_frozen BK225.out 0
                        have hfz91_1 := blk_frozen BK225.out 1
                        have hnb92 := NB216_217.out
                        have hnc92 := NB217_216.out
                        have hcz93_0 : w30.cell? ⟨gb216, 0, none⟩ = some (.int .i64 a0_0) := (blk_cell BK216.out 0).trans rfl
                        have hcz93_1 : w30.cell? ⟨gb216, 1, none⟩ = some (.int .i64 a0_1) := (blk_cell BK216.out 1).trans rfl
                        have hcz93_2 : w30.cell? ⟨gb216, 2, none⟩ = some (.slice A0_2 l0_2.length c0_2) := (blk_cell BK216.out 2).trans rfl
                        have hfz93_0 := blk_frozen BK216.out 0
                        have hfz93_1 := blk_frozen BK216.out 1
                        have hfz93_2 := blk_frozen BK216.out 2
                        obtain ⟨Ao94, co94, eo94⟩ := Kd.R_slice HO_5.out
                        subst eo94
                        have p226 : 0 ≤ (((rd_T50 l1_0 x7_2).f0) : Int) := of_decide_eq_true (by first | (with_reducible assumption) | assumption)
                        have q226 : ((rd_T50 l1_0 x7_2).f0) < (x5_2.length : Int) := of_decide_eq_true (by first | (with_reducible assumption) | assumption)
                        obtain ⟨ad226, e226, hx226_0⟩ := Kd.at_bool (Kd.R_reads' HO_5.out).2.2 ((rd_T50 l1_0 x7_2).f0) p226 q226
                        (try rw [← Nbq58.out] at hx226_0)
                        (try rw [← Nbq68.out] at hx226_0)
                        cases e226
                        have hn226_0 : ad226.block ≠ gb225 := Kd.own_blk (Kd.R_ne HO_5.out BK225.out (by decide))
                        have hn226_1 : ad226.block ≠ gb225 := Kd.own_blk (Kd.R_ne HO_5.out BK225.out (by decide))
                        replace hx226_0 := (cell_far (p := ⟨gb225, 0, none⟩) (by first | (rw [add_block]; exact hn226_0) | (show (Addr.add _ _).block ≠ _; rw [add_block]; exact hn226_0) | exact hn226_0) (.int .i64 ((rd_T50 l1_0 x7_2).f0))).trans hx226_0
                        replace hx226_0 := (cell_far (p := ⟨gb225, 1, none⟩) (by first | (rw [add_block]; exact hn226_1) | (show (Addr.add _ _).block ≠ _; rw [add_block]; exact hn226_1) | exact hn226_1) (.int .i64 ((rd_T50 l1_0 x7_2).f1))).trans hx226_0
                        (try have hy226_0 := fun (n_ : Nat) => (show ((((w30.drewN n_).setCell ⟨gb225, 0, none⟩ (.int .i64 ((rd_T50 l1_0 x7_2).f0))).setCell ⟨gb225, 1, none⟩ (.int .i64 ((rd_T50 l1_0 x7_2).f1)))).cell? _ = some _ from hx226_0))
                        clear hn226_0
                        clear hn226_1
                        replace p226 := eq_true p226
                        replace q226 := eq_true q226
                        obtain ⟨Ao95, co95, eo95⟩ := Kd.R_slice HO_6.out
                        subst eo95
                        have p227 : 0 ≤ (((rd_T50 l1_0 x7_2).f1) : Int) := of_decide_eq_true (by first | (with_reducible assumption) | assumption)
                        have q227 : ((rd_T50 l1_0 x7_2).f1) < (x6_2.length : Int) := of_decide_eq_true (by first | (with_reducible assumption) | assumption)
                        obtain ⟨ad227, e227, hx227_0⟩ := Kd.at_bool (Kd.R_reads' HO_6.out).2.2 ((rd_T50 l1_0 x7_2).f1) p227 q227
                        (try rw [← Nbq58.out] at hx227_0)
                        (try rw [← Nbq68.out] at hx227_0)
                        cases e227
                        have hn227_0 : ad227.block ≠ gb225 := Kd.own_blk (Kd.R_ne HO_6.out BK225.out (by decide))
                        have hn227_1 : ad227.block ≠ gb225 := Kd.own_blk (Kd.R_ne HO_6.out BK225.out (by decide))
                        replace hx227_0 := (cell_far (p := ⟨gb225, 0, none⟩) (by first | (rw [add_block]; exact hn227_0) | (show (Addr.add _ _).block ≠ _; rw [add_block]; exact hn227_0) | exact hn227_0) (.int .i64 ((rd_T50 l1_0 x7_2).f0))).trans hx227_0
                        replace hx227_0 := (cell_far (p := ⟨gb225, 1, none⟩) (by first | (rw [add_block]; exact hn227_1) | (show (Addr.add _ _).block ≠ _; rw [add_block]; exact hn227_1) | exact hn227_1) (.int .i64 ((rd_T50 l1_0 x7_2).f1))).trans hx227_0
                        (try have hy227_0 := fun (n_ : Nat) => (show ((((w30.drewN n_).setCell ⟨gb225, 0, none⟩ (.int .i64 ((rd_T50 l1_0 x7_2).f0))).setCell ⟨gb225, 1, none⟩ (.int .i64 ((rd_T50 l1_0 x7_2).f1)))).cell? _ = some _ from hx227_0))
                        clear hn227_0
                        clear hn227_1
                        replace p227 := eq_true p227
                        replace q227 := eq_true q227
                        go_wp2
                        repeat (go_quiet (fail); try go_wp2)
                        go_meet
                        case rel => exact ⟨_, (false), (by first | rfl | (simp; done) | (simp [*]; done)), H', ⟨by have := HJ2.out; have := HK2.out; first | omega | exact Nat.le_refl _⟩, ⟨by (with_reducible repeat (first | apply Kd.R_alloc | apply Kd.R_drewN | apply Kd.R_drew)); exact Kd.R_mono (Kd.R_far (p := ⟨gb225, 1, none⟩) (Kd.R_far (p := ⟨gb225, 0, none⟩) (Kd.R_types HO_5.out BK225.out (by decide)) (fun _ hk => hk.2) (.int .i64 ((rd_T50 l1_0 x7_2).f0))) (fun _ hk => hk.2) (.int .i64 ((rd_T50 l1_0 x7_2).f1))) (fun _ hk => hk.1)⟩, ⟨by (with_reducible repeat (first | apply Kd.R_alloc | apply Kd.R_drewN | apply Kd.R_drew)); exact Kd.R_mono (Kd.R_far (p := ⟨gb225, 1, none⟩) (Kd.R_far (p := ⟨gb225, 0, none⟩) (Kd.R_types HO_6.out BK225.out (by decide)) (fun _ hk => hk.2) (.int .i64 ((rd_T50 l1_0 x7_2).f0))) (fun _ hk => hk.2) (.int .i64 ((rd_T50 l1_0 x7_2).f1))) (fun _ hk => hk.1)⟩, ⟨by (with_reducible repeat (first | refine blk_drewN ?_ _ | refine blk_drew ?_ | refine blk_alloc ?_ _)); refine blk_far ?_ NB216_225.out _; (with_reducible repeat (first | refine blk_drewN ?_ _ | refine blk_drew ?_ | refine blk_alloc ?_ _)); refine blk_far ?_ NB216_225.out _; (with_reducible repeat (first | refine blk_drewN ?_ _ | refine blk_drew ?_ | refine blk_alloc ?_ _)); exact BK216.out⟩, ⟨by (with_reducible repeat (first | refine blk_drewN ?_ _ | refine blk_drew ?_ | refine blk_alloc ?_ _)); refine blk_far ?_ NB217_225.out _; (with_reducible repeat (first | refine blk_drewN ?_ _ | refine blk_drew ?_ | refine blk_alloc ?_ _)); refine blk_far ?_ NB217_225.out _; (with_reducible repeat (first | refine blk_drewN ?_ _ | refine blk_drew ?_ | refine blk_alloc ?_ _)); exact BK217.out⟩, ⟨by (with_reducible repeat (first | refine blk_drewN ?_ _ | refine blk_drew ?_ | refine blk_alloc ?_ _)); refine blk_put (cs := #[.int .i64 ((rd_T50 l1_0 x7_2).f0), .int .i64 0]) ?_ 1 _ rfl; (with_reducible repeat (first | refine blk_drewN ?_ _ | refine blk_drew ?_ | refine blk_alloc ?_ _)); refine blk_put (cs := #[.int .i64 0, .int .i64 0]) ?_ 0 _ rfl; (with_reducible repeat (first | refine blk_drewN ?_ _ | refine blk_drew ?_ | refine blk_alloc ?_ _)); exact BK225.out⟩, ⟨by repeat (first | (with_reducible first | exact HB.out | apply below_alloc | apply pw_below_drewN | apply below_drew1 | refine below_set ?_ GE216.out | refine below_set ?_ GE217.out | refine below_set ?_ GE225.out) | exact HB.out)⟩⟩
                     ·rw [if_neg c67] at H
                      exact absurd H (by simp)
                    ·rw [if_neg c66] at H
                     exact absurd H (by simp)
                  ·rw [if_neg c57] at H
                   exact absurd H (by simp)
                 ·rw [if_neg c56] at H
                  exact absurd H (by simp)
            case rest =>
             as_aux_lemma =>
             clear HC27
             try clear c1
             try clear c2
             try clear p2
             try clear q2
             try clear hx2
             try clear c3
             try clear c4
             try clear c5
             try clear q5
             try clear c6
             try clear c6b0
             try clear c6b1
             try clear p6
             try clear q6
             try clear c7
             try clear c8
             try clear c9
             try clear c10
             try clear c13
             try clear c14
             try clear c14b0
             try clear c14b1
             try clear c15
             try clear c15b0
             try clear c15b1
             try clear c16
             try clear c16b0
             try clear c16b1
             try clear c17
             try clear c17b0
             try clear c17b1
             try clear c18
             try clear p22
             try clear q22
             try clear hx22
             try clear c25
             try clear c25b0
             try clear c26
             try clear c26b0
             try clear c28
             try clear c31
             try clear c32
             try clear c34
             try clear c34b0
             try clear c35
             try clear c36
             try clear c38
             try clear c38b0
             try clear c39
             try clear c40
             try clear c42
             try clear c44
             try clear c44b0
             try clear c45
             try clear c46
             try clear c48
             try clear c50
             try clear c50b0
             try clear c51
             try clear c52
             try clear c54
             try clear c56
             try clear c56b0
             try clear c57
             try clear c57b0
             try clear q58
             try clear c59
             try clear c60
             try clear c61
             try clear c63
             try clear p64
             try clear c66
             try clear c66b0
             try clear c67
             try clear c67b0
             try clear q68
             try clear c69
             try clear c70
             try clear c71
             try clear c73
             try clear c77
             try clear c77b0
             try clear c79
             try clear c79b0
             try clear c80
             try clear c80b0
             try clear c81
             try clear c82
             try clear c84
             try clear c89
             try clear c90
             try clear c92
             try clear hcz11_0
             try clear hcz11_1
             try clear hcz11_2
             try clear hcz12_0
             try clear hcz12_1
             try clear hcz12_2
             try clear hcz19_0
             try clear hcz19_1
             try clear hcz19_2
             try clear hcz22_0
             try clear hcz22_1
             try clear hcz22_2
             try clear hcz29_0
             try clear hcz29_1
             try clear hcz29_2
             try clear hcz33_0
             try clear hcz33_1
             try clear hcz37_0
             try clear hcz37_1
             try clear hcz41_0
             try clear hcz41_1
             try clear hcz43_0
             try clear hcz43_1
             try clear hcz43_2
             try clear hcz47_0
             try clear hcz47_1
             try clear hcz49_0
             try clear hcz49_1
             try clear hcz49_2
             try clear hcz53_0
             try clear hcz53_1
             try clear hcz55_0
             try clear hcz55_1
             try clear hcz55_2
             try clear hcz62_0
             try clear hcz62_1
             try clear hcz64_0
             try clear hcz64_1
             try clear hcz64_2
             try clear hcz72_0
             try clear hcz72_1
             try clear hcz74_0
             try clear hcz74_1
             try clear hcz74_2
             try clear hcz83_0
             try clear hcz83_1
             try clear hcz85_0
             try clear hcz85_1
             try clear hcz85_2
             try clear hcz88_0
             try clear hcz88_1
             try clear hcz88_2
             try clear hcz8_0
             try clear hcz8_1
             try clear hcz8_2
             try clear hcz91_0
             try clear hcz91_1
             try clear hcz93_0
             try clear hcz93_1
             try clear hcz93_2
             try clear hcz9_0
             try clear hcz9_1
             try clear hcz9_2
             try clear hfz11_0
             try clear hfz11_1
             try clear hfz11_2
             try clear hfz12_0
             try clear hfz12_1
             try clear hfz12_2
             try clear hfz19_0
             try clear hfz19_1
             try clear hfz19_2
             try clear hfz22_0
             try clear hfz22_1
             try clear hfz22_2
             try clear hfz29_0
             try clear hfz29_1
             try clear hfz29_2
             try clear hfz33_0
             try clear hfz33_1
             try clear hfz37_0
             try clear hfz37_1
             try clear hfz41_0
             try clear hfz41_1
             try clear hfz43_0
             try clear hfz43_1
             try clear hfz43_2
             try clear hfz47_0
             try clear hfz47_1
             try clear hfz49_0
             try clear hfz49_1
             try clear hfz49_2
             try clear hfz53_0
             try clear hfz53_1
             try clear hfz55_0
             try clear hfz55_1
             try clear hfz55_2
             try clear hfz62_0
             try clear hfz62_1
             try clear hfz64_0
             try clear hfz64_1
             try clear hfz64_2
             try clear hfz72_0
             try clear hfz72_1
             try clear hfz74_0
             try clear hfz74_1
             try clear hfz74_2
             try clear hfz83_0
             try clear hfz83_1
             try clear hfz85_0
             try clear hfz85_1
             try clear hfz85_2
             try clear hfz88_0
             try clear hfz88_1
             try clear hfz88_2
             try clear hfz8_0
             try clear hfz8_1
             try clear hfz8_2
             try clear hfz91_0
             try clear hfz91_1
             try clear hfz93_0
             try clear hfz93_1
             try clear hfz93_2
             try clear hfz9_0
             try clear hfz9_1
             try clear hfz9_2
             try clear hx224_0
             try clear hx224_1
             try clear hx226_0
             try clear hx227_0
             try clear hx228_0
             try clear hx228_1
             try clear p2
             try clear p224
             try clear p226
             try clear p227
             try clear p228
             try clear q224
             try clear q226
             try clear q227
             try clear q228
             obtain ⟨kq, x96_26, rfl, HA, HJ26, HO_5, HO_6, BK216, BK217, BK225, HB⟩ := hcut
             cases kq with
             | zero => exact absurd HA.out (by simp [cabstandlaw18_tight.j2])
             | succ kj26 =>
              have H := HA.out
              clear HA
              simp only [cabstandlaw18_tight.j2] at H
              by_cases c96 : x96_26 = true
              ·subst c96
               have H1 : (some false) = some r := by rw [if_pos rfl] at H; exact H
               clear H
               have H := H1
               clear H1
               obtain rfl := Option.some.inj H
               go_wp2
               repeat (go_quiet (fail); try go_wp2)
               go_ret
               exact ⟨by first | rfl | (simp [errW_none, errW_some] <;> rfl) | (simp [*, errW_none, errW_some] <;> rfl), by repeat (first | (with_reducible first | exact HB.out | apply below_alloc | apply pw_below_drewN | apply below_drew1 | refine below_set ?_ GE216.out | refine below_set ?_ GE217.out | refine below_set ?_ GE225.out) | exact HB.out)⟩
              ·replace c96 := Bool.eq_false_iff.mpr c96
               subst c96
               have H1 : ((cabstandlaw18_worth.f kj26 a0_0 a0_1 l0_2 (([(⟨((rd_T50 l1_0 x7_2).f0), ((rd_T50 l1_0 x7_2).f1)⟩ : S50)] : List (S50)))).bind fun t232 => (if t232 = 0 then (cabstandlaw18_tight.j3 kj26 x5_2 x6_2 x7_2 true a0_0 a0_1 l0_2 l1_0 l1_1 l1_2 ((rd_T50 l1_0 x7_2).f0) ((rd_T50 l1_0 x7_2).f1)) else (if 0 ≤ ((rd_T50 l1_0 x7_2).f0) then (if ((rd_T50 l1_0 x7_2).f0) < (l1_1.length : Int) then (if (rd l1_1 ((rd_T50 l1_0 x7_2).f0)) < 0 then (cabstandlaw18_tight.j3 kj26 x5_2 x6_2 x7_2 true a0_0 a0_1 l0_2 l1_0 l1_1 l1_2 ((rd_T50 l1_0 x7_2).f0) ((rd_T50 l1_0 x7_2).f1)) else (if (rd l1_1 ((rd_T50 l1_0 x7_2).f0)) > t232 then (cabstandlaw18_tight.j3 kj26 x5_2 x6_2 x7_2 true a0_0 a0_1 l0_2 l1_0 l1_1 l1_2 ((rd_T50 l1_0 x7_2).f0) ((rd_T50 l1_0 x7_2).f1)) else (if 0 ≤ ((rd_T50 l1_0 x7_2).f1) then (if ((rd_T50 l1_0 x7_2).f1) < (l1_2.length : Int) then (cabstandlaw18_tight.j3 kj26 x5_2 x6_2 x7_2 ((rd l1_2 ((rd_T50 l1_0 x7_2).f1)) != (wrap64 (t232 - (rd l1_1 ((rd_T50 l1_0 x7_2).f0))))) a0_0 a0_1 l0_2 l1_0 l1_1 l1_2 ((rd_T50 l1_0 x7_2).f0) ((rd_T50 l1_0 x7_2).f1)) else (none)) else (none)))) else (none)) else (none)))) = some r := by rw [if_neg (show ¬ (false = true) by decide)] at H; exact H
               clear H
               have H := H1
               clear H1
               obtain ⟨y229, hy229⟩ : ∃ y_ : List (S50), y_ = (([(⟨((rd_T50 l1_0 x7_2).f0), ((rd_T50 l1_0 x7_2).f1)⟩ : S50)] : List (S50))) := ⟨_, rfl⟩
               replace H : ((cabstandlaw18_worth.f kj26 a0_0 a0_1 l0_2 y229).bind fun t232 => (if t232 = 0 then (cabstandlaw18_tight.j3 kj26 x5_2 x6_2 x7_2 true a0_0 a0_1 l0_2 l1_0 l1_1 l1_2 ((rd_T50 l1_0 x7_2).f0) ((rd_T50 l1_0 x7_2).f1)) else (if 0 ≤ ((rd_T50 l1_0 x7_2).f0) then (if ((rd_T50 l1_0 x7_2).f0) < (l1_1.length : Int) then (if (rd l1_1 ((rd_T50 l1_0 x7_2).f0)) < 0 then (cabstandlaw18_tight.j3 kj26 x5_2 x6_2 x7_2 true a0_0 a0_1 l0_2 l1_0 l1_1 l1_2 ((rd_T50 l1_0 x7_2).f0) ((rd_T50 l1_0 x7_2).f1)) else (if (rd l1_1 ((rd_T50 l1_0 x7_2).f0)) > t232 then (cabstandlaw18_tight.j3 kj26 x5_2 x6_2 x7_2 true a0_0 a0_1 l0_2 l1_0 l1_1 l1_2 ((rd_T50 l1_0 x7_2).f0) ((rd_T50 l1_0 x7_2).f1)) else (if 0 ≤ ((rd_T50 l1_0 x7_2).f1) then (if ((rd_T50 l1_0 x7_2).f1) < (l1_2.length : Int) then (cabstandlaw18_tight.j3 kj26 x5_2 x6_2 x7_2 ((rd l1_2 ((rd_T50 l1_0 x7_2).f1)) != (wrap64 (t232 - (rd l1_1 ((rd_T50 l1_0 x7_2).f0))))) a0_0 a0_1 l0_2 l1_0 l1_1 l1_2 ((rd_T50 l1_0 x7_2).f0) ((rd_T50 l1_0 x7_2).f1)) else (none)) else (none)))) else (none)) else (none)))) = some r := by first | (rw [hy229]; with_reducible exact H) | (have H2_ := (Option.bind_some _ _).symm.trans H; rw [hy229]; with_reducible exact H2_) | (have H2_ := (Option.bind_some _ _).symm.trans H; with_reducible exact H2_) | with_reducible exact H | (rw [hy229]; exact H) | exact H
               have Ny229 := Aside0.mk hy229
               clear hy229
               replace H := Option.bind_eq_some_iff.mp H
               obtain ⟨t232, A970, H⟩ := H
               replace H : (if t232 = 0 then (cabstandlaw18_tight.j3 kj26 x5_2 x6_2 x7_2 true a0_0 a0_1 l0_2 l1_0 l1_1 l1_2 ((rd_T50 l1_0 x7_2).f0) ((rd_T50 l1_0 x7_2).f1)) else (if 0 ≤ ((rd_T50 l1_0 x7_2).f0) then (if ((rd_T50 l1_0 x7_2).f0) < (l1_1.length : Int) then (if (rd l1_1 ((rd_T50 l1_0 x7_2).f0)) < 0 then (cabstandlaw18_tight.j3 kj26 x5_2 x6_2 x7_2 true a0_0 a0_1 l0_2 l1_0 l1_1 l1_2 ((rd_T50 l1_0 x7_2).f0) ((rd_T50 l1_0 x7_2).f1)) else (if (rd l1_1 ((rd_T50 l1_0 x7_2).f0)) > t232 then (cabstandlaw18_tight.j3 kj26 x5_2 x6_2 x7_2 true a0_0 a0_1 l0_2 l1_0 l1_1 l1_2 ((rd_T50 l1_0 x7_2).f0) ((rd_T50 l1_0 x7_2).f1)) else (if 0 ≤ ((rd_T50 l1_0 x7_2).f1) then (if ((rd_T50 l1_0 x7_2).f1) < (l1_2.length : Int) then (cabstandlaw18_tight.j3 kj26 x5_2 x6_2 x7_2 ((rd l1_2 ((rd_T50 l1_0 x7_2).f1)) != (wrap64 (t232 - (rd l1_1 ((rd_T50 l1_0 x7_2).f0))))) a0_0 a0_1 l0_2 l1_0 l1_1 l1_2 ((rd_T50 l1_0 x7_2).f0) ((rd_T50 l1_0 x7_2).f1)) else (none)) else (none)))) else (none)) else (none))) = some r := H
               have A97 := Aside0.mk A970
               clear A970
               have HC98 := Aside0.mk H
               clear H
               have hnb99 := NB216_217.out
               have hnc99 := NB217_216.out
               have hnb100 := NB216_225.out
               have hnc100 := NB225_216.out
               have hcz101_0 : wc.cell? ⟨gb216, 0, none⟩ = some (.int .i64 a0_0) := (blk_cell BK216.out 0).trans rfl
               have hcz101_1 : wc.cell? ⟨gb216, 1, none⟩ = some (.int .i64 a0_1) := (blk_cell BK216.out 1).trans rfl
               have hcz101_2 : wc.cell? ⟨gb216, 2, none⟩ = some (.slice A0_2 l0_2.length c0_2) := (blk_cell BK216.out 2).trans rfl
               have hfz101_0 := blk_frozen BK216.out 0
               have hfz101_1 := blk_frozen BK216.out 1
               have hfz101_2 := blk_frozen BK216.out 2
               have hnb102 := NB225_217.out
               have hnc102 := NB217_225.out
               have hcz103_0 : wc.cell? ⟨gb225, 0, none⟩ = some (.int .i64 ((rd_T50 l1_0 x7_2).f0)) := (blk_cell BK225.out 0).trans rfl
               have hcz103_1 : wc.cell? ⟨gb225, 1, none⟩ = some (.int .i64 ((rd_T50 l1_0 x7_2).f1)) := (blk_cell BK225.out 1).trans rfl
               have hfz103_0 := blk_frozen BK225.out 0
               have hfz103_1 := blk_frozen BK225.out 1
               go_upto_region 12 with (first | ((with_reducible refine gate_dst (N := 99) rfl ?_); (try (refine gate_guard (by rfl) ?_; dsimp only)); refine Kd.R_lit k50 _ 50 ?hg (N := 99) ?hd (xs := ([(⟨((rd_T50 l1_0 x7_2).f0), ((rd_T50 l1_0 x7_2).f1)⟩ : S50)] : List (S50))) (inner := [.int .i64 ((rd_T50 l1_0 x7_2).f0), .int .i64 ((rd_T50 l1_0 x7_2).f1)]) (ok := fun _ => True) (okp := fun _ => True) ?hr ?hp (fun _ hk => hk) trivial (Below.refl _ _) (Nat.le_refl _) (by simp) ?_; (case hd => rfl); (case hg => rfl); (case hr => first | (go_simp; done) | (go_simp; rfl)); (case hp => exact (Reps.c2 (show Kd.M k50 _ _ _ (⟨((rd_T50 l1_0 x7_2).f0), ((rd_T50 l1_0 x7_2).f1)⟩ : S50) [.int .i64 ((rd_T50 l1_0 x7_2).f0), .int .i64 ((rd_T50 l1_0 x7_2).f1)] from (k50_mkM _ _ _ (⟨((rd_T50 l1_0 x7_2).f0), ((rd_T50 l1_0 x7_2).f1)⟩ : S50) )) (Reps.none _ _))); intro v230 w104 ho105 hb hg_ hnew_; clear hg_ hnew_; (first | rw [← Ny229.out] at ho105 | (simp only [Int.reduceToNat] at ho105; rw [← Ny229.out] at ho105)); have n0_ := Aside0.mk (Kd.R_below (by (with_reducible repeat (first | apply Kd.R_alloc | apply Kd.R_drewN | apply Kd.R_drew)); exact HO_5.out) hb); have n1_ := Aside0.mk (Kd.R_below (by (with_reducible repeat (first | apply Kd.R_alloc | apply Kd.R_drewN | apply Kd.R_drew)); exact HO_6.out) hb); have n2_ := Aside0.mk (Kd.R_lower (Kd.R_newB ho105 (g := gb225) (o := .cells #[.int .i64 ((rd_T50 l1_0 x7_2).f0), .int .i64 ((rd_T50 l1_0 x7_2).f1)] 50 (0, 0)) (by (with_reducible repeat (first | refine blk_drewN ?_ _ | refine blk_drew ?_ | refine blk_alloc ?_ _)); exact BK225.out)) (below_size (by repeat (first | (with_reducible first | exact HB.out | apply below_alloc | apply pw_below_drewN | apply below_drew1 | refine below_set ?_ GE216.out | refine below_set ?_ GE217.out | refine below_set ?_ GE225.out) | exact HB.out)))); have n3_ := Aside0.mk (blk_below (g := gb216) (o := .cells #[.int .i64 a0_0, .int .i64 a0_1, .slice A0_2 l0_2.length c0_2] 24 (0, 0)) (by (with_reducible repeat (first | refine blk_drewN ?_ _ | refine blk_drew ?_ | refine blk_alloc ?_ _)); exact BK216.out) hb); have n4_ := Aside0.mk (blk_below (g := gb217) (o := .cells #[.slice (some ad224) l1_0.length c1_0, .slice A1_1 l1_1.length c1_1, .slice A1_2 l1_2.length c1_2] 28 (0, 0)) (by (with_reducible repeat (first | refine blk_drewN ?_ _ | refine blk_drew ?_ | refine blk_alloc ?_ _)); exact BK217.out) hb); have n5_ := Aside0.mk (blk_below (g := gb225) (o := .cells #[.int .i64 ((rd_T50 l1_0 x7_2).f0), .int .i64 ((rd_T50 l1_0 x7_2).f1)] 50 (0, 0)) (by (with_reducible repeat (first | refine blk_drewN ?_ _ | refine blk_drew ?_ | refine blk_alloc ?_ _)); exact BK225.out) hb); have n6_ := Aside0.mk (below_step (by repeat (first | (with_reducible first | exact HB.out | apply below_alloc | apply pw_below_drewN | apply below_drew1 | refine below_set ?_ GE216.out | refine below_set ?_ GE217.out | refine below_set ?_ GE225.out) | exact HB.out)) hb); clear HO_5; clear HO_6; clear BK216; clear BK217; clear BK225; clear HB; have HO_5 := n0_; have HO_6 := n1_; have HO231 := n2_; have BK216 := n3_; have BK217 := n4_; have BK225 := n5_; have HB := n6_; clear n0_ n1_ n2_ n3_ n4_ n5_ n6_; clear hb ho105; obtain ⟨Ao106, co106, eo106⟩ := Kd.R_slice HO231.out; subst eo106) | (go_at_call 26; (with_reducible refine (cabstandlaw18_worth.calls kj26 a0_0 a0_1 _ _ l0_2 _ _ y229 t232 _ ?side1 ?side2 ?side3 ?side4 A97.out).mono ?_); (case side1 => repeat (first | exact (Kd.C_below HR0_2.out HB.out) | (with_reducible refine Kd.C_alloc ?_ _) | (with_reducible refine Kd.C_drewN ?_ _) | (with_reducible refine Kd.C_drew ?_))); (case side2 => exact HC0_2.out); (case side3 => repeat (first | exact (Kd.R_reads' HO231.out).2.2 | (with_reducible refine Kd.C_alloc ?_ _) | (with_reducible refine Kd.C_drewN ?_ _) | (with_reducible refine Kd.C_drew ?_))); (case side4 => exact (Kd.R_reads' HO231.out).2.1); rintro e w107 ⟨rfl, hb⟩; have n0_ := Aside0.mk (Kd.R_below (by (with_reducible repeat (first | apply Kd.R_alloc | apply Kd.R_drewN | apply Kd.R_drew)); exact HO_5.out) hb); have n1_ := Aside0.mk (Kd.R_below (by (with_reducible repeat (first | apply Kd.R_alloc | apply Kd.R_drewN | apply Kd.R_drew)); exact HO_6.out) hb); have n2_ := Aside0.mk (Kd.R_below (by (with_reducible repeat (first | apply Kd.R_alloc | apply Kd.R_drewN | apply Kd.R_drew)); exact HO231.out) hb); have n3_ := Aside0.mk (blk_below (g := gb216) (o := .cells #[.int .i64 a0_0, .int .i64 a0_1, .slice A0_2 l0_2.length c0_2] 24 (0, 0)) (by (with_reducible repeat (first | refine blk_drewN ?_ _ | refine blk_drew ?_ | refine blk_alloc ?_ _)); exact BK216.out) hb); have n4_ := Aside0.mk (blk_below (g := gb217) (o := .cells #[.slice (some ad224) l1_0.length c1_0, .slice A1_1 l1_1.length c1_1, .slice A1_2 l1_2.length c1_2] 28 (0, 0)) (by (with_reducible repeat (first | refine blk_drewN ?_ _ | refine blk_drew ?_ | refine blk_alloc ?_ _)); exact BK217.out) hb); have n5_ := Aside0.mk (blk_below (g := gb225) (o := .cells #[.int .i64 ((rd_T50 l1_0 x7_2).f0), .int .i64 ((rd_T50 l1_0 x7_2).f1)] 50 (0, 0)) (by (with_reducible repeat (first | refine blk_drewN ?_ _ | refine blk_drew ?_ | refine blk_alloc ?_ _)); exact BK225.out) hb); have n6_ := Aside0.mk (below_step (by repeat (first | (with_reducible first | exact HB.out | apply below_alloc | apply pw_below_drewN | apply below_drew1 | refine below_set ?_ GE216.out | refine below_set ?_ GE217.out | refine below_set ?_ GE225.out) | exact HB.out)) hb); clear HO_5; clear HO_6; clear HO231; clear BK216; clear BK217; clear BK225; clear HB; have HO_5 := n0_; have HO_6 := n1_; have HO231 := n2_; have BK216 := n3_; have BK217 := n4_; have BK225 := n5_; have HB := n6_; clear n0_ n1_ n2_ n3_ n4_ n5_ n6_; (try clear hb); (try clear hb2); (try clear hk); (try clear hi)))
               repeat (go_quiet (first | ((with_reducible refine gate_dst (N := 99) rfl ?_); (try (refine gate_guard (by rfl) ?_; dsimp only)); refine Kd.R_lit k50 _ 50 ?hg (N := 99) ?hd (xs := ([(⟨((rd_T50 l1_0 x7_2).f0), ((rd_T50 l1_0 x7_2).f1)⟩ : S50)] : List (S50))) (inner := [.int .i64 ((rd_T50 l1_0 x7_2).f0), .int .i64 ((rd_T50 l1_0 x7_2).f1)]) (ok := fun _ => True) (okp := fun _ => True) ?hr ?hp (fun _ hk => hk) trivial (Below.refl _ _) (Nat.le_refl _) (by simp) ?_; (case hd => rfl); (case hg => rfl); (case hr => first | (go_simp; done) | (go_simp; rfl)); (case hp => exact (Reps.c2 (show Kd.M k50 _ _ _ (⟨((rd_T50 l1_0 x7_2).f0), ((rd_T50 l1_0 x7_2).f1)⟩ : S50) [.int .i64 ((rd_T50 l1_0 x7_2).f0), .int .i64 ((rd_T50 l1_0 x7_2).f1)] from (k50_mkM _ _ _ (⟨((rd_T50 l1_0 x7_2).f0), ((rd_T50 l1_0 x7_2).f1)⟩ : S50) )) (Reps.none _ _))); intro v230 w104 ho105 hb hg_ hnew_; clear hg_ hnew_; (first | rw [← Ny229.out] at ho105 | (simp only [Int.reduceToNat] at ho105; rw [← Ny229.out] at ho105)); have n0_ := Aside0.mk (Kd.R_below (by (with_reducible repeat (first | apply Kd.R_alloc | apply Kd.R_drewN | apply Kd.R_drew)); exact HO_5.out) hb); have n1_ := Aside0.mk (Kd.R_below (by (with_reducible repeat (first | apply Kd.R_alloc | apply Kd.R_drewN | apply Kd.R_drew)); exact HO_6.out) hb); have n2_ := Aside0.mk (Kd.R_lower (Kd.R_newB ho105 (g := gb225) (o := .cells #[.int .i64 ((rd_T50 l1_0 x7_2).f0), .int .i64 ((rd_T50 l1_0 x7_2).f1)] 50 (0, 0)) (by (with_reducible repeat (first | refine blk_drewN ?_ _ | refine blk_drew ?_ | refine blk_alloc ?_ _)); exact BK225.out)) (below_size (by repeat (first | (with_reducible first | exact HB.out | apply below_alloc | apply pw_below_drewN | apply below_drew1 | refine below_set ?_ GE216.out | refine below_set ?_ GE217.out | refine below_set ?_ GE225.out) | exact HB.out)))); have n3_ := Aside0.mk (blk_below (g := gb216) (o := .cells #[.int .i64 a0_0, .int .i64 a0_1, .slice A0_2 l0_2.length c0_2] 24 (0, 0)) (by (with_reducible repeat (first | refine blk_drewN ?_ _ | refine blk_drew ?_ | refine blk_alloc ?_ _)); exact BK216.out) hb); have n4_ := Aside0.mk (blk_below (g := gb217) (o := .cells #[.slice (some ad224) l1_0.length c1_0, .slice A1_1 l1_1.length c1_1, .slice A1_2 l1_2.length c1_2] 28 (0, 0)) (by (with_reducible repeat (first | refine blk_drewN ?_ _ | refine blk_drew ?_ | refine blk_alloc ?_ _)); exact BK217.out) hb); have n5_ := Aside0.mk (blk_below (g := gb225) (o := .cells #[.int .i64 ((rd_T50 l1_0 x7_2).f0), .int .i64 ((rd_T50 l1_0 x7_2).f1)] 50 (0, 0)) (by (with_reducible repeat (first | refine blk_drewN ?_ _ | refine blk_drew ?_ | refine blk_alloc ?_ _)); exact BK225.out) hb); have n6_ := Aside0.mk (below_step (by repeat (first | (with_reducible first | exact HB.out | apply below_alloc | apply pw_below_drewN | apply below_drew1 | refine below_set ?_ GE216.out | refine below_set ?_ GE217.out | refine below_set ?_ GE225.out) | exact HB.out)) hb); clear HO_5; clear HO_6; clear BK216; clear BK217; clear BK225; clear HB; have HO_5 := n0_; have HO_6 := n1_; have HO231 := n2_; have BK216 := n3_; have BK217 := n4_; have BK225 := n5_; have HB := n6_; clear n0_ n1_ n2_ n3_ n4_ n5_ n6_; clear hb ho105; obtain ⟨Ao106, co106, eo106⟩ := Kd.R_slice HO231.out; subst eo106) | (go_at_call 26; (with_reducible refine (cabstandlaw18_worth.calls kj26 a0_0 a0_1 _ _ l0_2 _ _ y229 t232 _ ?side1 ?side2 ?side3 ?side4 A97.out).mono ?_); (case side1 => repeat (first | exact (Kd.C_below HR0_2.out HB.out) | (with_reducible refine Kd.C_alloc ?_ _) | (with_reducible refine Kd.C_drewN ?_ _) | (with_reducible refine Kd.C_drew ?_))); (case side2 => exact HC0_2.out); (case side3 => repeat (first | exact (Kd.R_reads' HO231.out).2.2 | (with_reducible refine Kd.C_alloc ?_ _) | (with_reducible refine Kd.C_drewN ?_ _) | (with_reducible refine Kd.C_drew ?_))); (case side4 => exact (Kd.R_reads' HO231.out).2.1); rintro e w107 ⟨rfl, hb⟩; have n0_ := Aside0.mk (Kd.R_below (by (with_reducible repeat (first | apply Kd.R_alloc | apply Kd.R_drewN | apply Kd.R_drew)); exact HO_5.out) hb); have n1_ := Aside0.mk (Kd.R_below (by (with_reducible repeat (first | apply Kd.R_alloc | apply Kd.R_drewN | apply Kd.R_drew)); exact HO_6.out) hb); have n2_ := Aside0.mk (Kd.R_below (by (with_reducible repeat (first | apply Kd.R_alloc | apply Kd.R_drewN | apply Kd.R_drew)); exact HO231.out) hb); have n3_ := Aside0.mk (blk_below (g := gb216) (o := .cells #[.int .i64 a0_0, .int .i64 a0_1, .slice A0_2 l0_2.length c0_2] 24 (0, 0)) (by (with_reducible repeat (first | refine blk_drewN ?_ _ | refine blk_drew ?_ | refine blk_alloc ?_ _)); exact BK216.out) hb); have n4_ := Aside0.mk (blk_below (g := gb217) (o := .cells #[.slice (some ad224) l1_0.length c1_0, .slice A1_1 l1_1.length c1_1, .slice A1_2 l1_2.length c1_2] 28 (0, 0)) (by (with_reducible repeat (first | refine blk_drewN ?_ _ | refine blk_drew ?_ | refine blk_alloc ?_ _)); exact BK217.out) hb); have n5_ := Aside0.mk (blk_below (g := gb225) (o := .cells #[.int .i64 ((rd_T50 l1_0 x7_2).f0), .int .i64 ((rd_T50 l1_0 x7_2).f1)] 50 (0, 0)) (by (with_reducible repeat (first | refine blk_drewN ?_ _ | refine blk_drew ?_ | refine blk_alloc ?_ _)); exact BK225.out) hb); have n6_ := Aside0.mk (below_step (by repeat (first | (with_reducible first | exact HB.out | apply below_alloc | apply pw_below_drewN | apply below_drew1 | refine below_set ?_ GE216.out | refine below_set ?_ GE217.out | refine below_set ?_ GE225.out) | exact HB.out)) hb); clear HO_5; clear HO_6; clear HO231; clear BK216; clear BK217; clear BK225; clear HB; have HO_5 := n0_; have HO_6 := n1_; have HO231 := n2_; have BK216 := n3_; have BK217 := n4_; have BK225 := n5_; have HB := n6_; clear n0_ n1_ n2_ n3_ n4_ n5_ n6_; (try clear hb); (try clear hb2); (try clear hk); (try clear hi))); go_upto_region 12 with (first | ((with_reducible refine gate_dst (N := 99) rfl ?_); (try (refine gate_guard (by rfl) ?_; dsimp only)); refine Kd.R_lit k50 _ 50 ?hg (N := 99) ?hd (xs := ([(⟨((rd_T50 l1_0 x7_2).f0), ((rd_T50 l1_0 x7_2).f1)⟩ : S50)] : List (S50))) (inner := [.int .i64 ((rd_T50 l1_0 x7_2).f0), .int .i64 ((rd_T50 l1_0 x7_2).f1)]) (ok := fun _ => True) (okp := fun _ => True) ?hr ?hp (fun _ hk => hk) trivial (Below.refl _ _) (Nat.le_refl _) (by simp) ?_; (case hd => rfl); (case hg => rfl); (case hr => first | (go_simp; done) | (go_simp; rfl)); (case hp => exact (Reps.c2 (show Kd.M k50 _ _ _ (⟨((rd_T50 l1_0 x7_2).f0), ((rd_T50 l1_0 x7_2).f1)⟩ : S50) [.int .i64 ((rd_T50 l1_0 x7_2).f0), .int .i64 ((rd_T50 l1_0 x7_2).f1)] from (k50_mkM _ _ _ (⟨((rd_T50 l1_0 x7_2).f0), ((rd_T50 l1_0 x7_2).f1)⟩ : S50) )) (Reps.none _ _))); intro v230 w104 ho105 hb hg_ hnew_; clear hg_ hnew_; (first | rw [← Ny229.out] at ho105 | (simp only [Int.reduceToNat] at ho105; rw [← Ny229.out] at ho105)); have n0_ := Aside0.mk (Kd.R_below (by (with_reducible repeat (first | apply Kd.R_alloc | apply Kd.R_drewN | apply Kd.R_drew)); exact HO_5.out) hb); have n1_ := Aside0.mk (Kd.R_below (by (with_reducible repeat (first | apply Kd.R_alloc | apply Kd.R_drewN | apply Kd.R_drew)); exact HO_6.out) hb); have n2_ := Aside0.mk (Kd.R_lower (Kd.R_newB ho105 (g := gb225) (o := .cells #[.int .i64 ((rd_T50 l1_0 x7_2).f0), .int .i64 ((rd_T50 l1_0 x7_2).f1)] 50 (0, 0)) (by (with_reducible repeat (first | refine blk_drewN ?_ _ | refine blk_drew ?_ | refine blk_alloc ?_ _)); exact BK225.out)) (below_size (by repeat (first | (with_reducible first | exact HB.out | apply below_alloc | apply pw_below_drewN | apply below_drew1 | refine below_set ?_ GE216.out | refine below_set ?_ GE217.out | refine below_set ?_ GE225.out) | exact HB.out)))); have n3_ := Aside0.mk (blk_below (g := gb216) (o := .cells #[.int .i64 a0_0, .int .i64 a0_1, .slice A0_2 l0_2.length c0_2] 24 (0, 0)) (by (with_reducible repeat (first | refine blk_drewN ?_ _ | refine blk_drew ?_ | refine blk_alloc ?_ _)); exact BK216.out) hb); have n4_ := Aside0.mk (blk_below (g := gb217) (o := .cells #[.slice (some ad224) l1_0.length c1_0, .slice A1_1 l1_1.length c1_1, .slice A1_2 l1_2.length c1_2] 28 (0, 0)) (by (with_reducible repeat (first | refine blk_drewN ?_ _ | refine blk_drew ?_ | refine blk_alloc ?_ _)); exact BK217.out) hb); have n5_ := Aside0.mk (blk_below (g := gb225) (o := .cells #[.int .i64 ((rd_T50 l1_0 x7_2).f0), .int .i64 ((rd_T50 l1_0 x7_2).f1)] 50 (0, 0)) (by (with_reducible repeat (first | refine blk_drewN ?_ _ | refine blk_drew ?_ | refine blk_alloc ?_ _)); exact BK225.out) hb); have n6_ := Aside0.mk (below_step (by repeat (first | (with_reducible first | exact HB.out | apply below_alloc | apply pw_below_drewN | apply below_drew1 | refine below_set ?_ GE216.out | refine below_set ?_ GE217.out | refine below_set ?_ GE225.out) | exact HB.out)) hb); clear HO_5; clear HO_6; clear BK216; clear BK217; clear BK225; clear HB; have HO_5 := n0_; have HO_6 := n1_; have HO231 := n2_; have BK216 := n3_; have BK217 := n4_; have BK225 := n5_; have HB := n6_; clear n0_ n1_ n2_ n3_ n4_ n5_ n6_; clear hb ho105; obtain ⟨Ao106, co106, eo106⟩ := Kd.R_slice HO231.out; subst eo106) | (go_at_call 26; (with_reducible refine (cabstandlaw18_worth.calls kj26 a0_0 a0_1 _ _ l0_2 _ _ y229 t232 _ ?side1 ?side2 ?side3 ?side4 A97.out).mono ?_); (case side1 => repeat (first | exact (Kd.C_below HR0_2.out HB.out) | (with_reducible refine Kd.C_alloc ?_ _) | (with_reducible refine Kd.C_drewN ?_ _) | (with_reducible refine Kd.C_drew ?_))); (case side2 => exact HC0_2.out); (case side3 => repeat (first | exact (Kd.R_reads' HO231.out).2.2 | (with_reducible refine Kd.C_alloc ?_ _) | (with_reducible refine Kd.C_drewN ?_ _) | (with_reducible refine Kd.C_drew ?_))); (case side4 => exact (Kd.R_reads' HO231.out).2.1); rintro e w107 ⟨rfl, hb⟩; have n0_ := Aside0.mk (Kd.R_below (by (with_reducible repeat (first | apply Kd.R_alloc | apply Kd.R_drewN | apply Kd.R_drew)); exact HO_5.out) hb); have n1_ := Aside0.mk (Kd.R_below (by (with_reducible repeat (first | apply Kd.R_alloc | apply Kd.R_drewN | apply Kd.R_drew)); exact HO_6.out) hb); have n2_ := Aside0.mk (Kd.R_below (by (with_reducible repeat (first | apply Kd.R_alloc | apply Kd.R_drewN | apply Kd.R_drew)); exact HO231.out) hb); have n3_ := Aside0.mk (blk_below (g := gb216) (o := .cells #[.int .i64 a0_0, .int .i64 a0_1, .slice A0_2 l0_2.length c0_2] 24 (0, 0)) (by (with_reducible repeat (first | refine blk_drewN ?_ _ | refine blk_drew ?_ | refine blk_alloc ?_ _)); exact BK216.out) hb); have n4_ := Aside0.mk (blk_below (g := gb217) (o := .cells #[.slice (some ad224) l1_0.length c1_0, .slice A1_1 l1_1.length c1_1, .slice A1_2 l1_2.length c1_2] 28 (0, 0)) (by (with_reducible repeat (first | refine blk_drewN ?_ _ | refine blk_drew ?_ | refine blk_alloc ?_ _)); exact BK217.out) hb); have n5_ := Aside0.mk (blk_below (g := gb225) (o := .cells #[.int .i64 ((rd_T50 l1_0 x7_2).f0), .int .i64 ((rd_T50 l1_0 x7_2).f1)] 50 (0, 0)) (by (with_reducible repeat (first | refine blk_drewN ?_ _ | refine blk_drew ?_ | refine blk_alloc ?_ _)); exact BK225.out) hb); have n6_ := Aside0.mk (below_step (by repeat (first | (with_reducible first | exact HB.out | apply below_alloc | apply pw_below_drewN | apply below_drew1 | refine below_set ?_ GE216.out | refine below_set ?_ GE217.out | refine below_set ?_ GE225.out) | exact HB.out)) hb); clear HO_5; clear HO_6; clear HO231; clear BK216; clear BK217; clear BK225; clear HB; have HO_5 := n0_; have HO_6 := n1_; have HO231 := n2_; have BK216 := n3_; have BK217 := n4_; have BK225 := n5_; have HB := n6_; clear n0_ n1_ n2_ n3_ n4_ n5_ n6_; (try clear hb); (try clear hb2); (try clear hk); (try clear hi))))
               (try simp only [Act.put, List.setIfInBounds_toArray, List.set_cons_zero, List.set_cons_succ])
               go_cut [138] (fun v138 wc => ∃ (kq : Nat) (x138_97 : Bool), v138 = .bool x138_97 ∧ Aside0 (cabstandlaw18_tight.j3 kq x5_2 x6_2 x7_2 x138_97 a0_0 a0_1 l0_2 l1_0 l1_1 l1_2 ((rd_T50 l1_0 x7_2).f0) ((rd_T50 l1_0 x7_2).f1) = some r) ∧ Aside0 (kq ≤ kj26) ∧ Aside0 (Kd.R Kd.bool 4 wc w.heap.size (fun k_ => some k_ ≠ (v222 : Value).ownBlock) v219 x5_2) ∧ Aside0 (Kd.R Kd.bool 4 wc w.heap.size (fun k_ => some k_ ≠ (v219 : Value).ownBlock) v222 x6_2) ∧ Aside0 (wc.heap[gb216]? = some (.cells #[.int .i64 a0_0, .int .i64 a0_1, (.slice A0_2 l0_2.length c0_2)] 24 (0, 0))) ∧ Aside0 (wc.heap[gb217]? = some (.cells #[(.slice (some ad224) l1_0.length c1_0), (.slice A1_1 l1_1.length c1_1), (.slice A1_2 l1_2.length c1_2)] 28 (0, 0))) ∧ Aside0 (wc.heap[gb225]? = some (.cells #[.int .i64 ((rd_T50 l1_0 x7_2).f0), .int .i64 ((rd_T50 l1_0 x7_2).f1)] 50 (0, 0))) ∧ Aside0 (Below w.heap.size w wc))
               case first =>
                as_aux_lemma =>
                have H := HC98.out
                clear HC98
                by_cases c108 : t232 = 0
                ·rw [if_pos c108] at H
                 have c108b0 : (t232 == 0) = true := beq_iff_eq.mpr c108
                 have c108b1 : (t232 != 0) = false := bne_eq_false_iff_eq.mpr c108
                 clear c108
                 (first | rw [c108b0] | (simp only [i64_w, i32_w]; rw [c108b0]) | skip)
                 have H' := Aside0.mk H
                 clear H
                 go_wp2
                 repeat (go_quiet (fail); try go_wp2)
                 go_meet
                 case rel => exact ⟨_, (true), (by first | rfl | (simp; done) | (simp [*]; done)), H', ⟨by have := HJ2.out; have := HK2.out; have := HJ26.out; first | omega | exact Nat.le_refl _⟩, ⟨by (with_reducible repeat (first | apply Kd.R_alloc | apply Kd.R_drewN | apply Kd.R_drew)); exact HO_5.out⟩, ⟨by (with_reducible repeat (first | apply Kd.R_alloc | apply Kd.R_drewN | apply Kd.R_drew)); exact HO_6.out⟩, ⟨by (with_reducible repeat (first | refine blk_drewN ?_ _ | refine blk_drew ?_ | refine blk_alloc ?_ _)); exact BK216.out⟩, ⟨by (with_reducible repeat (first | refine blk_drewN ?_ _ | refine blk_drew ?_ | refine blk_alloc ?_ _)); exact BK217.out⟩, ⟨by (with_reducible repeat (first | refine blk_drewN ?_ _ | refine blk_drew ?_ | refine blk_alloc ?_ _)); exact BK225.out⟩, ⟨by repeat (first | (with_reducible first | exact HB.out | apply below_alloc | apply pw_below_drewN | apply below_drew1 | refine below_set ?_ GE216.out | refine below_set ?_ GE217.out | refine below_set ?_ GE225.out) | exact HB.out)⟩⟩
                ·rw [if_neg c108] at H
                 have c108b0 : (t232 == 0) = false := beq_eq_false_iff_ne.mpr c108
                 have c108b1 : (t232 != 0) = true := bne_iff_ne.mpr c108
                 (first | rw [c108b0] | (simp only [i64_w, i32_w]; rw [c108b0]) | skip)
                 by_cases c109 : 0 ≤ ((rd_T50 l1_0 x7_2).f0)
                 ·rw [if_pos c109] at H
                  have c109b0 : decide (0 ≤ ((rd_T50 l1_0 x7_2).f0)) = true := decide_eq_true c109
                  clear c109
                  by_cases c110 : ((rd_T50 l1_0 x7_2).f0) < (l1_1.length : Int)
                  ·rw [if_pos c110] at H
                   have c110b0 : decide (((rd_T50 l1_0 x7_2).f0) < (l1_1.length : Int)) = true := decide_eq_true c110
                   clear c110
                   by_cases c111 : (rd l1_1 ((rd_T50 l1_0 x7_2).f0)) < 0
                   ·rw [if_pos c111] at H
                    have c111b0 : decide ((rd l1_1 ((rd_T50 l1_0 x7_2).f0)) < 0) = true := decide_eq_true c111
                    clear c111
                    have H' := Aside0.mk H
                    clear H
                    have hnb112 := NB217_216.out
                    have hnc112 := NB216_217.out
                    have hnb113 := NB217_225.out
                    have hnc113 := NB225_217.out
                    have hcz114_0 : w107.cell? ⟨gb217, 0, none⟩ = some (.slice (some ad224) l1_0.length c1_0) := (blk_cell BK217.out 0).trans rfl
                    have hcz114_1 : w107.cell? ⟨gb217, 1, none⟩ = some (.slice A1_1 l1_1.length c1_1) := (blk_cell BK217.out 1).trans rfl
                    have hcz114_2 : w107.cell? ⟨gb217, 2, none⟩ = some (.slice A1_2 l1_2.length c1_2) := (blk_cell BK217.out 2).trans rfl
                    have hfz114_0 := blk_frozen BK217.out 0
                    have hfz114_1 := blk_frozen BK217.out 1
                    have hfz114_2 := blk_frozen BK217.out 2
                    have hnb115 := NB225_216.out
                    have hnc115 := NB216_225.out
                    have hcz116_0 : w107.cell? ⟨gb225, 0, none⟩ = some (.int .i64 ((rd_T50 l1_0 x7_2).f0)) := (blk_cell BK225.out 0).trans rfl
                    have hcz116_1 : w107.cell? ⟨gb225, 1, none⟩ = some (.int .i64 ((rd_T50 l1_0 x7_2).f1)) := (blk_cell BK225.out 1).trans rfl
                    have hfz116_0 := blk_frozen BK225.out 0
                    have hfz116_1 := blk_frozen BK225.out 1
                    have p233 : 0 ≤ (((rd_T50 l1_0 x7_2).f0) : Int) := of_decide_eq_true (by first | (with_reducible assumption) | assumption)
                    have q233 : ((rd_T50 l1_0 x7_2).f0) < (l1_1.length : Int) := of_decide_eq_true (by first | (with_reducible assumption) | assumption)
                    obtain ⟨ad233, e233, hx233_0⟩ := Kd.at_int HR1_1.out ((rd_T50 l1_0 x7_2).f0) p233 q233
                    cases e233
                    replace hx233_0 := (HB.out.cell (World.block_lt_of_cell? w _ hx233_0)).trans hx233_0
                    replace p233 := eq_true p233
                    replace q233 := eq_true q233
                    go_wp2
                    repeat (go_quiet (fail); try go_wp2)
                    go_meet
                    case rel => exact ⟨_, (true), (by first | rfl | (simp; done) | (simp [*]; done)), H', ⟨by have := HJ2.out; have := HK2.out; have := HJ26.out; first | omega | exact Nat.le_refl _⟩, ⟨by (with_reducible repeat (first | apply Kd.R_alloc | apply Kd.R_drewN | apply Kd.R_drew)); exact HO_5.out⟩, ⟨by (with_reducible repeat (first | apply Kd.R_alloc | apply Kd.R_drewN | apply Kd.R_drew)); exact HO_6.out⟩, ⟨by (with_reducible repeat (first | refine blk_drewN ?_ _ | refine blk_drew ?_ | refine blk_alloc ?_ _)); exact BK216.out⟩, ⟨by (with_reducible repeat (first | refine blk_drewN ?_ _ | refine blk_drew ?_ | refine blk_alloc ?_ _)); exact BK217.out⟩, ⟨by (with_reducible repeat (first | refine blk_drewN ?_ _ | refine blk_drew ?_ | refine blk_alloc ?_ _)); exact BK225.out⟩, ⟨by repeat (first | (with_reducible first | exact HB.out | apply below_alloc | apply pw_below_drewN | apply below_drew1 | refine below_set ?_ GE216.out | refine below_set ?_ GE217.out | refine below_set ?_ GE225.out) | exact HB.out)⟩⟩
                   ·rw [if_neg c111] at H
                    have c111b0 : decide ((rd l1_1 ((rd_T50 l1_0 x7_2).f0)) < 0) = false := decide_eq_false c111
                    clear c111
                    by_cases c117 : (rd l1_1 ((rd_T50 l1_0 x7_2).f0)) > t232
                    ·rw [if_pos c117] at H
                     have c117b0 : decide (t232 < (rd l1_1 ((rd_T50 l1_0 x7_2).f0))) = true := decide_eq_true c117
                     clear c117
                     have H' := Aside0.mk H
                     clear H
                     have hnb118 := NB217_216.out
                     have hnc118 := NB216_217.out
                     have hnb119 := NB217_225.out
                     have hnc119 := NB225_217.out
                     have hcz120_0 : w107.cell? ⟨gb217, 0, none⟩ = some (.slice (some ad224) l1_0.length c1_0) := (blk_cell BK217.out 0).trans rfl
                     have hcz120_1 : w107.cell? ⟨gb217, 1, none⟩ = some (.slice A1_1 l1_1.length c1_1) := (blk_cell BK217.out 1).trans rfl
                     have hcz120_2 : w107.cell? ⟨gb217, 2, none⟩ = some (.slice A1_2 l1_2.length c1_2) := (blk_cell BK217.out 2).trans rfl
                     have hfz120_0 := blk_frozen BK217.out 0
                     have hfz120_1 := blk_frozen BK217.out 1
                     have hfz120_2 := blk_frozen BK217.out 2
                     have hnb121 := NB225_216.out
                     have hnc121 := NB216_225.out
                     have hcz122_0 : w107.cell? ⟨gb225, 0, none⟩ = some (.int .i64 ((rd_T50 l1_0 x7_2).f0)) := (blk_cell BK225.out 0).trans rfl
                     have hcz122_1 : w107.cell? ⟨gb225, 1, none⟩ = some (.int .i64 ((rd_T50 l1_0 x7_2).f1)) := (blk_cell BK225.out 1).trans rfl
                     have hfz122_0 := blk_frozen BK225.out 0
                     have hfz122_1 := blk_frozen BK225.out 1
                     have p233 : 0 ≤ (((rd_T50 l1_0 x7_2).f0) : Int) := of_decide_eq_true (by first | (with_reducible assumption) | assumption)
                     have q233 : ((rd_T50 l1_0 x7_2).f0) < (l1_1.length : Int) := of_decide_eq_true (by first | (with_reducible assumption) | assumption)
                     obtain ⟨ad233, e233, hx233_0⟩ := Kd.at_int HR1_1.out ((rd_T50 l1_0 x7_2).f0) p233 q233
                     cases e233
                     replace hx233_0 := (HB.out.cell (World.block_lt_of_cell? w _ hx233_0)).trans hx233_0
                     replace p233 := eq_true p233
                     replace q233 := eq_true q233
                     have p234 : 0 ≤ (((rd_T50 l1_0 x7_2).f0) : Int) := of_decide_eq_true (by first | (with_reducible assumption) | assumption)
                     have q234 : ((rd_T50 l1_0 x7_2).f0) < (l1_1.length : Int) := of_decide_eq_true (by first | (with_reducible assumption) | assumption)
                     obtain ⟨ad234, e234, hx234_0⟩ := Kd.at_int HR1_1.out ((rd_T50 l1_0 x7_2).f0) p234 q234
                     obtain rfl : ad233 = ad234 := (by injection e234)
                     replace hx234_0 := (HB.out.cell (World.block_lt_of_cell? w _ hx234_0)).trans hx234_0
                     replace p234 := eq_true p234
                     replace q234 := eq_true q234
                     go_wp2
                     repeat (go_quiet (fail); try go_wp2)
                     go_meet
                     case rel => exact ⟨_, (true), (by first | rfl | (simp; done) | (simp [*]; done)), H', ⟨by have := HJ2.out; have := HK2.out; have := HJ26.out; first | omega | exact Nat.le_refl _⟩, ⟨by (with_reducible repeat (first | apply Kd.R_alloc | apply Kd.R_drewN | apply Kd.R_drew)); exact HO_5.out⟩, ⟨by (with_reducible repeat (first | apply Kd.R_alloc | apply Kd.R_drewN | apply Kd.R_drew)); exact HO_6.out⟩, ⟨by (with_reducible repeat (first | refine blk_drewN ?_ _ | refine blk_drew ?_ | refine blk_alloc ?_ _)); exact BK216.out⟩, ⟨by (with_reducible repeat (first | refine blk_drewN ?_ _ | refine blk_drew ?_ | refine blk_alloc ?_ _)); exact BK217.out⟩, ⟨by (with_reducible repeat (first | refine blk_drewN ?_ _ | refine blk_drew ?_ | refine blk_alloc ?_ _)); exact BK225.out⟩, ⟨by repeat (first | (with_reducible first | exact HB.out | apply below_alloc | apply pw_below_drewN | apply below_drew1 | refine below_set ?_ GE216.out | refine below_set ?_ GE217.out | refine below_set ?_ GE225.out) | exact HB.out)⟩⟩
                    ·rw [if_neg c117] at H
                     have c117b0 : decide (t232 < (rd l1_1 ((rd_T50 l1_0 x7_2).f0))) = false := decide_eq_false c117
                     clear c117
                     by_cases c123 : 0 ≤ ((rd_T50 l1_0 x7_2).f1)
                     ·rw [if_pos c123] at H
                      have c123b0 : decide (0 ≤ ((rd_T50 l1_0 x7_2).f1)) = true := decide_eq_true c123
                      clear c123
                      by_cases c124 : ((rd_T50 l1_0 x7_2).f1) < (l1_2.length : Int)
                      ·rw [if_pos c124] at H
                       have c124b0 : decide (((rd_T50 l1_0 x7_2).f1) < (l1_2.length : Int)) = true := decide_eq_true c124
                       clear c124
                       have H' := Aside0.mk H
                       clear H
                       have hnb125 := NB217_216.out
                       have hnc125 := NB216_217.out
                       have hnb126 := NB217_225.out
                       have hnc126 := NB225_217.out
                       have hcz127_0 : w107.cell? ⟨gb217, 0, none⟩ = some (.slice (some ad224) l1_0.length c1_0) := (blk_cell BK217.out 0).trans rfl
                       have hcz127_1 : w107.cell? ⟨gb217, 1, none⟩ = some (.slice A1_1 l1_1.length c1_1) := (blk_cell BK217.out 1).trans rfl
                       have hcz127_2 : w107.cell? ⟨gb217, 2, none⟩ = some (.slice A1_2 l1_2.length c1_2) := (blk_cell BK217.out 2).trans rfl
                       have hfz127_0 := blk_frozen BK217.out 0
                       have hfz127_1 := blk_frozen BK217.out 1
                       have hfz127_2 := blk_frozen BK217.out 2
                       have hnb128 := NB225_216.out
                       have hnc128 := NB216_225.out
                       have hcz129_0 : w107.cell? ⟨gb225, 0, none⟩ = some (.int .i64 ((rd_T50 l1_0 x7_2).f0)) := (blk_cell BK225.out 0).trans rfl
                       have hcz129_1 : w107.cell? ⟨gb225, 1, none⟩ = some (.int .i64 ((rd_T50 l1_0 x7_2).f1)) := (blk_cell BK225.out 1).trans rfl
                       have hfz129_0 := blk_frozen BK225.out 0
                       have hfz129_1 := blk_frozen BK225.out 1
                       have p233 : 0 ≤ (((rd_T50 l1_0 x7_2).f0) : Int) := of_decide_eq_true (by first | (with_reducible assumption) | assumption)
                       have q233 : ((rd_T50 l1_0 x7_2).f0) < (l1_1.length : Int) := of_decide_eq_true (by first | (with_reducible assumption) | assumption)
                       obtain ⟨ad233, e233, hx233_0⟩ := Kd.at_int HR1_1.out ((rd_T50 l1_0 x7_2).f0) p233 q233
                       cases e233
                       replace hx233_0 := (HB.out.cell (World.block_lt_of_cell? w _ hx233_0)).trans hx233_0
                       replace p233 := eq_true p233
                       replace q233 := eq_true q233
                       have p234 : 0 ≤ (((rd_T50 l1_0 x7_2).f0) : Int) := of_decide_eq_true (by first | (with_reducible assumption) | assumption)
                       have q234 : ((rd_T50 l1_0 x7_2).f0) < (l1_1.length : Int) := of_decide_eq_true (by first | (with_reducible assumption) | assumption)
                       obtain ⟨ad234, e234, hx234_0⟩ := Kd.at_int HR1_1.out ((rd_T50 l1_0 x7_2).f0) p234 q234
                       obtain rfl : ad233 = ad234 := (by injection e234)
                       replace hx234_0 := (HB.out.cell (World.block_lt_of_cell? w _ hx234_0)).trans hx234_0
                       replace p234 := eq_true p234
                       replace q234 := eq_true q234
                       have p235 : 0 ≤ (((rd_T50 l1_0 x7_2).f1) : Int) := of_decide_eq_true (by first | (with_reducible assumption) | assumption)
                       have q235 : ((rd_T50 l1_0 x7_2).f1) < (l1_2.length : Int) := of_decide_eq_true (by first | (with_reducible assumption) | assumption)
                       obtain ⟨ad235, e235, hx235_0⟩ := Kd.at_int HR1_2.out ((rd_T50 l1_0 x7_2).f1) p235 q235
                       cases e235
                       replace hx235_0 := (HB.out.cell (World.block_lt_of_cell? w _ hx235_0)).trans hx235_0
                       replace p235 := eq_true p235
                       replace q235 := eq_true q235
                       have p236 : 0 ≤ (((rd_T50 l1_0 x7_2).f0) : Int) := of_decide_eq_true (by first | (with_reducible assumption) | assumption)
                       have q236 : ((rd_T50 l1_0 x7_2).f0) < (l1_1.length : Int) := of_decide_eq_true (by first | (with_reducible assumption) | assumption)
                       obtain ⟨ad236, e236, hx236_0⟩ := Kd.at_int HR1_1.out ((rd_T50 l1_0 x7_2).f0) p236 q236
                       obtain rfl : ad233 = ad236 := (by injection e236)
                       replace hx236_0 := (HB.out.cell (World.block_lt_of_cell? w _ hx236_0)).trans hx236_0
                       replace p236 := eq_true p236
                       replace q236 := eq_true q236
                       go_wp2
                       repeat (go_quiet (fail); try go_wp2)
                       go_meet
                       case rel => exact ⟨_, (((rd l1_2 ((rd_T50 l1_0 x7_2).f1)) != (wrap64 (t232 - (rd l1_1 ((rd_T50 l1_0 x7_2).f0)))))), (by first | rfl | (simp; done) | (simp [*]; done)), H', ⟨by have := HJ2.out; have := HK2.out; have := HJ26.out; first | omega | exact Nat.le_refl _⟩, ⟨by (with_reducible repeat (first | apply Kd.R_alloc | apply Kd.R_drewN | apply Kd.R_drew)); exact HO_5.out⟩, ⟨by (with_reducible repeat (first | apply Kd.R_alloc | apply Kd.R_drewN | apply Kd.R_drew)); exact HO_6.out⟩, ⟨by (with_reducible repeat (first | refine blk_drewN ?_ _ | refine blk_drew ?_ | refine blk_alloc ?_ _)); exact BK216.out⟩, ⟨by (with_reducible repeat (first | refine blk_drewN ?_ _ | refine blk_drew ?_ | refine blk_alloc ?_ _)); exact BK217.out⟩, ⟨by (with_reducible repeat (first | refine blk_drewN ?_ _ | refine blk_drew ?_ | refine blk_alloc ?_ _)); exact BK225.out⟩, ⟨by repeat (first | (with_reducible first | exact HB.out | apply below_alloc | apply pw_below_drewN | apply below_drew1 | refine below_set ?_ GE216.out | refine below_set ?_ GE217.out | refine below_set ?_ GE225.out) | exact HB.out)⟩⟩
                      ·rw [if_neg c124] at H
                       exact absurd H (by simp)
                     ·rw [if_neg c123] at H
                      exact absurd H (by simp)
                  ·rw [if_neg c110] at H
                   exact absurd H (by simp)
                 ·rw [if_neg c109] at H
                  exact absurd H (by simp)
               case rest =>
                as_aux_lemma =>
                clear HC98
                try clear c1
                try clear c2
                try clear p2
                try clear q2
                try clear hx2
                try clear c3
                try clear c4
                try clear c5
                try clear q5
                try clear c6
                try clear c6b0
                try clear c6b1
                try clear p6
                try clear q6
                try clear c7
                try clear c8
                try clear c9
                try clear c10
                try clear c11
                try clear c12
                try clear c13
                try clear c14
                try clear c14b0
                try clear c14b1
                try clear c15
                try clear c15b0
                try clear c15b1
                try clear c16
                try clear c16b0
                try clear c16b1
                try clear c17
                try clear c17b0
                try clear c17b1
                try clear c18
                try clear p22
                try clear q22
                try clear hx22
                try clear p23
                try clear q23
                try clear hx23
                try clear c25
                try clear c25b0
                try clear c26
                try clear c26b0
                try clear c28
                try clear c31
                try clear c32
                try clear c34
                try clear c34b0
                try clear c35
                try clear c36
                try clear c38
                try clear c38b0
                try clear c39
                try clear c40
                try clear c42
                try clear c44
                try clear c44b0
                try clear c45
                try clear c46
                try clear c48
                try clear c50
                try clear c50b0
                try clear c51
                try clear c52
                try clear c54
                try clear c56
                try clear c56b0
                try clear c57
                try clear c57b0
                try clear q58
                try clear c59
                try clear c60
                try clear c61
                try clear c63
                try clear p64
                try clear c66
                try clear c66b0
                try clear c67
                try clear c67b0
                try clear q68
                try clear c69
                try clear c70
                try clear c71
                try clear c73
                try clear c77
                try clear c77b0
                try clear c79
                try clear c79b0
                try clear c80
                try clear c80b0
                try clear c81
                try clear c82
                try clear c84
                try clear c89
                try clear c90
                try clear c92
                try clear c96
                try clear c99
                try clear c100
                try clear c102
                try clear c108
                try clear c108b0
                try clear c108b1
                try clear c109
                try clear c109b0
                try clear c110
                try clear c110b0
                try clear c111
                try clear c111b0
                try clear c112
                try clear c113
                try clear c115
                try clear c117
                try clear c117b0
                try clear c118
                try clear c119
                try clear c121
                try clear c123
                try clear c123b0
                try clear c124
                try clear c124b0
                try clear c125
                try clear c126
                try clear c128
                try clear hcz101_0
                try clear hcz101_1
                try clear hcz101_2
                try clear hcz103_0
                try clear hcz103_1
                try clear hcz114_0
                try clear hcz114_1
                try clear hcz114_2
                try clear hcz116_0
                try clear hcz116_1
                try clear hcz11_0
                try clear hcz11_1
                try clear hcz11_2
                try clear hcz120_0
                try clear hcz120_1
                try clear hcz120_2
                try clear hcz122_0
                try clear hcz122_1
                try clear hcz127_0
                try clear hcz127_1
                try clear hcz127_2
                try clear hcz129_0
                try clear hcz129_1
                try clear hcz12_0
                try clear hcz12_1
                try clear hcz12_2
                try clear hcz19_0
                try clear hcz19_1
                try clear hcz19_2
                try clear hcz22_0
                try clear hcz22_1
                try clear hcz22_2
                try clear hcz29_0
                try clear hcz29_1
                try clear hcz29_2
                try clear hcz33_0
                try clear hcz33_1
                try clear hcz37_0
                try clear hcz37_1
                try clear hcz41_0
                try clear hcz41_1
                try clear hcz43_0
                try clear hcz43_1
                try clear hcz43_2
                try clear hcz47_0
                try clear hcz47_1
                try clear hcz49_0
                try clear hcz49_1
                try clear hcz49_2
                try clear hcz53_0
                try clear hcz53_1
                try clear hcz55_0
                try clear hcz55_1
                try clear hcz55_2
                try clear hcz62_0
                try clear hcz62_1
                try clear hcz64_0
                try clear hcz64_1
                try clear hcz64_2
                try clear hcz72_0
                try clear hcz72_1
                try clear hcz74_0
                try clear hcz74_1
                try clear hcz74_2
                try clear hcz83_0
                try clear hcz83_1
                try clear hcz85_0
                try clear hcz85_1
                try clear hcz85_2
                try clear hcz88_0
                try clear hcz88_1
                try clear hcz88_2
                try clear hcz8_0
                try clear hcz8_1
                try clear hcz8_2
                try clear hcz91_0
                try clear hcz91_1
                try clear hcz93_0
                try clear hcz93_1
                try clear hcz93_2
                try clear hcz9_0
                try clear hcz9_1
                try clear hcz9_2
                try clear hfz101_0
                try clear hfz101_1
                try clear hfz101_2
                try clear hfz103_0
                try clear hfz103_1
                try clear hfz114_0
                try clear hfz114_1
                try clear hfz114_2
                try clear hfz116_0
                try clear hfz116_1
                try clear hfz11_0
                try clear hfz11_1
                try clear hfz11_2
                try clear hfz120_0
                try clear hfz120_1
                try clear hfz120_2
                try clear hfz122_0
                try clear hfz122_1
                try clear hfz127_0
                try clear hfz127_1
                try clear hfz127_2
                try clear hfz129_0
                try clear hfz129_1
                try clear hfz12_0
                try clear hfz12_1
                try clear hfz12_2
                try clear hfz19_0
                try clear hfz19_1
                try clear hfz19_2
                try clear hfz22_0
                try clear hfz22_1
                try clear hfz22_2
                try clear hfz29_0
                try clear hfz29_1
                try clear hfz29_2
                try clear hfz33_0
                try clear hfz33_1
                try clear hfz37_0
                try clear hfz37_1
                try clear hfz41_0
                try clear hfz41_1
                try clear hfz43_0
                try clear hfz43_1
                try clear hfz43_2
                try clear hfz47_0
                try clear hfz47_1
                try clear hfz49_0
                try clear hfz49_1
                try clear hfz49_2
                try clear hfz53_0
                try clear hfz53_1
                try clear hfz55_0
                try clear hfz55_1
                try clear hfz55_2
                try clear hfz62_0
                try clear hfz62_1
                try clear hfz64_0
                try clear hfz64_1
                try clear hfz64_2
                try clear hfz72_0
                try clear hfz72_1
                try clear hfz74_0
                try clear hfz74_1
                try clear hfz74_2
                try clear hfz83_0
                try clear hfz83_1
                try clear hfz85_0
                try clear hfz85_1
                try clear hfz85_2
                try clear hfz88_0
                try clear hfz88_1
                try clear hfz88_2
                try clear hfz8_0
                try clear hfz8_1
                try clear hfz8_2
                try clear hfz91_0
                try clear hfz91_1
                try clear hfz93_0
                try clear hfz93_1
                try clear hfz93_2
                try clear hfz9_0
                try clear hfz9_1
                try clear hfz9_2
                try clear hx224_0
                try clear hx224_1
                try clear hx226_0
                try clear hx227_0
                try clear hx228_0
                try clear hx228_1
                try clear hx233_0
                try clear hx234_0
                try clear hx235_0
                try clear hx236_0
                try clear p2
                try clear p22
                try clear p224
                try clear p226
                try clear p227
                try clear p228
                try clear p233
                try clear p234
                try clear p235
                try clear p236
                try clear p6
                try clear p64
                try clear q2
                try clear q22
                try clear q224
                try clear q226
                try clear q227
                try clear q228
                try clear q233
                try clear q234
                try clear q235
                try clear q236
                try clear q5
                try clear q58
                try clear q6
                try clear q68
                obtain ⟨kq, x138_97, rfl, HA, HJ97, HO_5, HO_6, BK216, BK217, BK225, HB⟩ := hcut
                cases kq with
                | zero => exact absurd HA.out (by simp [cabstandlaw18_tight.j3])
                | succ kj97 =>
                 have H := HA.out
                 clear HA
                 simp only [cabstandlaw18_tight.j3] at H
                 by_cases c130 : x138_97 = true
                 ·subst c130
                  have H1 : (some false) = some r := by rw [if_pos rfl] at H; exact H
                  clear H
                  have H := H1
                  clear H1
                  obtain rfl := Option.some.inj H
                  go_wp2
                  repeat (go_quiet (fail); try go_wp2)
                  go_ret
                  exact ⟨by first | rfl | (simp [errW_none, errW_some] <;> rfl) | (simp [*, errW_none, errW_some] <;> rfl), by repeat (first | (with_reducible first | exact HB.out | apply below_alloc | apply pw_below_drewN | apply below_drew1 | refine below_set ?_ GE216.out | refine below_set ?_ GE217.out | refine below_set ?_ GE225.out) | exact HB.out)⟩
                 ·replace c130 := Bool.eq_false_iff.mpr c130
                  subst c130
                  have H1 : (if 0 ≤ ((rd_T50 l1_0 x7_2).f0) then (if ((rd_T50 l1_0 x7_2).f0) < (x5_2.length : Int) then (if 0 ≤ ((rd_T50 l1_0 x7_2).f1) then (if ((rd_T50 l1_0 x7_2).f1) < (x6_2.length : Int) then (cabstandlaw18_tight.l0 kj97 (x5_2.set (((rd_T50 l1_0 x7_2).f0) : Int).toNat true) (x6_2.set (((rd_T50 l1_0 x7_2).f1) : Int).toNat true) (wrap64 (x7_2 + 1)) a0_0 a0_1 l0_2 l1_0 l1_1 l1_2) else (none)) else (none)) else (none)) else (none)) = some r := by rw [if_neg (show ¬ (false = true) by decide)] at H; exact H
                  clear H
                  have H := H1
                  clear H1
                  by_cases c131 : 0 ≤ ((rd_T50 l1_0 x7_2).f0)
                  ·rw [if_pos c131] at H
                   have c131b0 : decide (0 ≤ ((rd_T50 l1_0 x7_2).f0)) = true := decide_eq_true c131
                   clear c131
                   by_cases c132 : ((rd_T50 l1_0 x7_2).f0) < (x5_2.length : Int)
                   ·rw [if_pos c132] at H
                    have c132b0 : decide (((rd_T50 l1_0 x7_2).f0) < (x5_2.length : Int)) = true := decide_eq_true c132
                    clear c132
                    obtain ⟨y237, hy237⟩ : ∃ y_ : List Bool, y_ = (x5_2.set (((rd_T50 l1_0 x7_2).f0) : Int).toNat true) := ⟨_, rfl⟩
                    replace H : (if 0 ≤ ((rd_T50 l1_0 x7_2).f1) then (if ((rd_T50 l1_0 x7_2).f1) < (x6_2.length : Int) then (cabstandlaw18_tight.l0 kj97 y237 (x6_2.set (((rd_T50 l1_0 x7_2).f1) : Int).toNat true) (wrap64 (x7_2 + 1)) a0_0 a0_1 l0_2 l1_0 l1_1 l1_2) else (none)) else (none)) = some r := by first | (rw [hy237]; with_reducible exact H) | (have H2_ := (Option.bind_some _ _).symm.trans H; rw [hy237]; with_reducible exact H2_) | (have H2_ := (Option.bind_some _ _).symm.trans H; with_reducible exact H2_) | with_reducible exact H | (rw [hy237]; exact H) | exact H
                    have Ny237 := Aside0.mk hy237
                    clear hy237
                    by_cases c134 : 0 ≤ ((rd_T50 l1_0 x7_2).f1)
                    ·rw [if_pos c134] at H
                     have c134b0 : decide (0 ≤ ((rd_T50 l1_0 x7_2).f1)) = true := decide_eq_true c134
                     clear c134
                     by_cases c135 : ((rd_T50 l1_0 x7_2).f1) < (x6_2.length : Int)
                     ·rw [if_pos c135] at H
                      have c135b0 : decide (((rd_T50 l1_0 x7_2).f1) < (x6_2.length : Int)) = true := decide_eq_true c135
                      clear c135
                      obtain ⟨y238, hy238⟩ : ∃ y_ : List Bool, y_ = (x6_2.set (((rd_T50 l1_0 x7_2).f1) : Int).toNat true) := ⟨_, rfl⟩
                      replace H : (cabstandlaw18_tight.l0 kj97 y237 y238 (wrap64 (x7_2 + 1)) a0_0 a0_1 l0_2 l1_0 l1_1 l1_2) = some r := by first | (rw [hy238]; with_reducible exact H) | (have H2_ := (Option.bind_some _ _).symm.trans H; rw [hy238]; with_reducible exact H2_) | (have H2_ := (Option.bind_some _ _).symm.trans H; with_reducible exact H2_) | with_reducible exact H | (rw [hy238]; exact H) | exact H
                      have Ny238 := Aside0.mk hy238
                      clear hy238
                      have H' := Aside0.mk H
                      clear H
                      have hnb137 := NB225_216.out
                      have hnc137 := NB216_225.out
                      have hnb138 := NB225_217.out
                      have hnc138 := NB217_225.out
                      have hcz139_0 : wc.cell? ⟨gb225, 0, none⟩ = some (.int .i64 ((rd_T50 l1_0 x7_2).f0)) := (blk_cell BK225.out 0).trans rfl
                      have hcz139_1 : wc.cell? ⟨gb225, 1, none⟩ = some (.int .i64 ((rd_T50 l1_0 x7_2).f1)) := (blk_cell BK225.out 1).trans rfl
                      have hfz139_0 := blk_frozen BK225.out 0
                      have hfz139_1 := blk_frozen BK225.out 1
                      have p133 : 0 ≤ (((rd_T50 l1_0 x7_2).f0) : Int) := of_decide_eq_true (by first | (with_reducible assumption) | assumption)
                      have q133 : (((rd_T50 l1_0 x7_2).f0) : Int) < ((x5_2.length : Int) : Int) := of_decide_eq_true (by first | (with_reducible assumption) | assumption)
                      obtain ⟨go133, co133, eo133, gb133, gl133, cl133, HG133⟩ := Kd.R_form HO_5.out (by omega)
                      (first | cases eo133 | (injection eo133 with ea_ en_ ec_; (first | subst ea_ | (injection ea_ with ea_; subst ea_)); subst ec_; clear en_))
                      have GB133 := Aside0.mk gb133
                      have GG133 := Aside0.mk HG133
                      clear gb133 gl133 HG133
                      obtain ⟨hx133_0, hf133_0⟩ := Kd.R_celln false HO_5.out (((rd_T50 l1_0 x7_2).f0) : Int) p133 q133
                      replace p133 := eq_true p133
                      replace q133 := eq_true q133
                      have HP140 := Kd.R_putg HO_5.out (((rd_T50 l1_0 x7_2).f0) : Int) true
                      go_wp2_with (first | ((with_reducible refine gate_store (t := 4) (p := 142) rfl ?_); (try (rw [drewN_self wc]; generalize hq_ : World.drewN wc _ = wc; have n0_ := Aside0.mk (Kd.R_at hq_ HO_5.out); have n1_ := Aside0.mk (Kd.R_at hq_ HO_6.out); have n2_ := Aside0.mk (blk_at hq_ BK216.out); have n3_ := Aside0.mk (blk_at hq_ BK217.out); have n4_ := Aside0.mk (blk_at hq_ BK225.out); have n5_ := Aside0.mk (below_at hq_ HB.out); clear hq_ HO_5 HO_6 BK216 BK217 BK225 HB; have HO_5 := n0_; have HO_6 := n1_; have BK216 := n2_; have BK217 := n3_; have BK225 := n4_; have HB := n5_; clear n0_ n1_ n2_ n3_ n4_ n5_; (try (have HP140 := Kd.R_putg HO_5.out (((rd_T50 l1_0 x7_2).f0) : Int) true)))); refine store_event (t := 4) (p := 142) (v := ?vo_w141) (w1 := (wc.setCell ⟨go133, (((rd_T50 l1_0 x7_2).f0) : Int).toNat, none⟩ (.bool true))) ?hg ?ho ?hn ?hr ?_; (case ho => rfl); (case hg => rfl); (case hn => rfl); (case hr => first | (go_simp; done) | (go_simp; rfl)); intro w141 hw; have hg : wc.grownBy w141 (some go133) := (by rw [hw]; exact HP140.2); have hp_ : Kd.R Kd.bool 4 w141 w.heap.size (fun k_ => some k_ ≠ (v222 : Value).ownBlock) (.slice (some ⟨go133, 0, none⟩) x5_2.length co133) y237 := (by rw [hw, Ny237.out]; exact HP140.1); clear HP140; have n0_ := Aside0.mk (hp_); have n1_ := Aside0.mk (Kd.R_after (v := (.slice (some ⟨go133, 0, none⟩) x5_2.length co133)) (v1 := (.slice (some ⟨go133, 0, none⟩) x5_2.length co133)) (ok := (fun _ => True)) (by (with_reducible repeat (first | apply Kd.R_alloc | apply Kd.R_drewN | apply Kd.R_drew)); exact Kd.R_mono HO_6.out (fun _ hk => ⟨trivial, hk⟩)) hg (.inl rfl)); have n2_ := Aside0.mk (blk_grown (g := gb216) (o := .cells #[.int .i64 a0_0, .int .i64 a0_1, .slice A0_2 l0_2.length c0_2] 24 (0, 0)) (by (with_reducible repeat (first | refine blk_drewN ?_ _ | refine blk_drew ?_ | refine blk_alloc ?_ _)); exact BK216.out) hg (Kd.R_ne HO_5.out BK216.out (by decide))); have n3_ := Aside0.mk (blk_grown (g := gb217) (o := .cells #[.slice (some ad224) l1_0.length c1_0, .slice A1_1 l1_1.length c1_1, .slice A1_2 l1_2.length c1_2] 28 (0, 0)) (by (with_reducible repeat (first | refine blk_drewN ?_ _ | refine blk_drew ?_ | refine blk_alloc ?_ _)); exact BK217.out) hg (Kd.R_ne HO_5.out BK217.out (by decide))); have n4_ := Aside0.mk (blk_grown (g := gb225) (o := .cells #[.int .i64 ((rd_T50 l1_0 x7_2).f0), .int .i64 ((rd_T50 l1_0 x7_2).f1)] 50 (0, 0)) (by (with_reducible repeat (first | refine blk_drewN ?_ _ | refine blk_drew ?_ | refine blk_alloc ?_ _)); exact BK225.out) hg (Kd.R_ne HO_5.out BK225.out (by decide))); have n5_ := Aside0.mk ((by rw [hw]; exact below_set (HB.out) GB133.out : Below w.heap.size w w141)); clear HO_5; clear HO_6; clear BK216; clear BK217; clear BK225; clear HB; have HO_5 := n0_; have HO_6 := n1_; have BK216 := n2_; have BK217 := n3_; have BK225 := n4_; have HB := n5_; clear n0_ n1_ n2_ n3_ n4_ n5_; clear hg hw hp_; have hcz142_0 : w141.cell? ⟨gb225, 0, none⟩ = some (.int .i64 ((rd_T50 l1_0 x7_2).f0)) := (blk_cell BK225.out 0).trans rfl; have hcz142_1 : w141.cell? ⟨gb225, 1, none⟩ = some (.int .i64 ((rd_T50 l1_0 x7_2).f1)) := (blk_cell BK225.out 1).trans rfl; have hfz142_0 := blk_frozen BK225.out 0; have hfz142_1 := blk_frozen BK225.out 1; have p136 : 0 ≤ (((rd_T50 l1_0 x7_2).f1) : Int) := of_decide_eq_true (by first | (with_reducible assumption) | assumption); have q136 : (((rd_T50 l1_0 x7_2).f1) : Int) < ((x6_2.length : Int) : Int) := of_decide_eq_true (by first | (with_reducible assumption) | assumption); obtain ⟨go136, co136, eo136, gb136, gl136, cl136, HG136⟩ := Kd.R_form HO_6.out (by omega); (first | cases eo136 | (injection eo136 with ea_ en_ ec_; (first | subst ea_ | (injection ea_ with ea_; subst ea_)); subst ec_; clear en_)); have GB136 := Aside0.mk gb136; have GG136 := Aside0.mk HG136; clear gb136 gl136 HG136; obtain ⟨hx136_0, hf136_0⟩ := Kd.R_celln false HO_6.out (((rd_T50 l1_0 x7_2).f1) : Int) p136 q136; replace p136 := eq_true p136; replace q136 := eq_true q136; have n_ := Aside0.mk (Kd.R_mono (ok' := (fun k_ => some k_ ≠ (.slice (some ⟨go133, 0, none⟩) x5_2.length co133 : Value).ownBlock)) HO_6.out (fun k_ hk => hk.2)); clear HO_6; have HO_6 := n_; clear n_; obtain ⟨hy143_, hz143_⟩ := Kd.R_celln false HO_6.out (((rd_T50 l1_0 x7_2).f1) : Int) (of_decide_eq_true (by first | (with_reducible assumption) | assumption)) (of_decide_eq_true (by first | (with_reducible assumption) | assumption)); have HP143 := Kd.R_putg HO_6.out (((rd_T50 l1_0 x7_2).f1) : Int) true) | ((with_reducible refine gate_store (t := 4) (p := 146) rfl ?_); (try (rw [drewN_self w141]; generalize hq_ : World.drewN w141 _ = w141; have n0_ := Aside0.mk (Kd.R_at hq_ HO_5.out); have n1_ := Aside0.mk (Kd.R_at hq_ HO_6.out); have n2_ := Aside0.mk (blk_at hq_ BK216.out); have n3_ := Aside0.mk (blk_at hq_ BK217.out); have n4_ := Aside0.mk (blk_at hq_ BK225.out); have n5_ := Aside0.mk (below_at hq_ HB.out); clear hq_ HO_5 HO_6 BK216 BK217 BK225 HB; have HO_5 := n0_; have HO_6 := n1_; have BK216 := n2_; have BK217 := n3_; have BK225 := n4_; have HB := n5_; clear n0_ n1_ n2_ n3_ n4_ n5_; (try (have n_ := Aside0.mk (Kd.R_mono (ok' := (fun k_ => some k_ ≠ (.slice (some ⟨go133, 0, none⟩) x5_2.length co133 : Value).ownBlock)) HO_6.out (fun k_ hk => hk.2)); clear HO_6; have HO_6 := n_; clear n_)); (try (obtain ⟨hy143_, hz143_⟩ := Kd.R_celln false HO_6.out (((rd_T50 l1_0 x7_2).f1) : Int) (of_decide_eq_true (by first | (with_reducible assumption) | assumption)) (of_decide_eq_true (by first | (with_reducible assumption) | assumption)))); (try (have HP143 := Kd.R_putg HO_6.out (((rd_T50 l1_0 x7_2).f1) : Int) true)))); refine store_event (t := 4) (p := 146) (v := ?vo_w144) (w1 := (w141.setCell ⟨go136, (((rd_T50 l1_0 x7_2).f1) : Int).toNat, none⟩ (.bool true))) ?hg ?ho ?hn ?hr ?_; (case ho => rfl); (case hg => rfl); (case hn => rfl); (case hr => first | (go_simp; done) | (go_simp; rfl)); intro w144 hw; have hg : w141.grownBy w144 (some go136) := (by rw [hw]; exact HP143.2); have hp_ : Kd.R Kd.bool 4 w144 w.heap.size (fun k_ => some k_ ≠ (.slice (some ⟨go133, 0, none⟩) x5_2.length co133 : Value).ownBlock) (.slice (some ⟨go136, 0, none⟩) x6_2.length co136) y238 := (by rw [hw, Ny238.out]; exact HP143.1); clear HP143; have n0_ := Aside0.mk (Kd.R_after (v := (.slice (some ⟨go136, 0, none⟩) x6_2.length co136)) (v1 := (.slice (some ⟨go136, 0, none⟩) x6_2.length co136)) (ok := (fun _ => True)) (by (with_reducible repeat (first | apply Kd.R_alloc | apply Kd.R_drewN | apply Kd.R_drew)); exact Kd.R_mono HO_5.out (fun _ hk => ⟨trivial, hk⟩)) hg (.inl rfl)); have n1_ := Aside0.mk (hp_); have n2_ := Aside0.mk (blk_grown (g := gb216) (o := .cells #[.int .i64 a0_0, .int .i64 a0_1, .slice A0_2 l0_2.length c0_2] 24 (0, 0)) (by (with_reducible repeat (first | refine blk_drewN ?_ _ | refine blk_drew ?_ | refine blk_alloc ?_ _)); exact BK216.out) hg (Kd.R_ne HO_6.out BK216.out (by decide))); have n3_ := Aside0.mk (blk_grown (g := gb217) (o := .cells #[.slice (some ad224) l1_0.length c1_0, .slice A1_1 l1_1.length c1_1, .slice A1_2 l1_2.length c1_2] 28 (0, 0)) (by (with_reducible repeat (first | refine blk_drewN ?_ _ | refine blk_drew ?_ | refine blk_alloc ?_ _)); exact BK217.out) hg (Kd.R_ne HO_6.out BK217.out (by decide))); have n4_ := Aside0.mk (blk_grown (g := gb225) (o := .cells #[.int .i64 ((rd_T50 l1_0 x7_2).f0), .int .i64 ((rd_T50 l1_0 x7_2).f1)] 50 (0, 0)) (by (with_reducible repeat (first | refine blk_drewN ?_ _ | refine blk_drew ?_ | refine blk_alloc ?_ _)); exact BK225.out) hg (Kd.R_ne HO_6.out BK225.out (by decide))); have n5_ := Aside0.mk ((by rw [hw]; exact below_set (HB.out) GB136.out : Below w.heap.size w w144)); clear HO_5; clear HO_6; clear BK216; clear BK217; clear BK225; clear HB; have HO_5 := n0_; have HO_6 := n1_; have BK216 := n2_; have BK217 := n3_; have BK225 := n4_; have HB := n5_; clear n0_ n1_ n2_ n3_ n4_ n5_; clear hg hw hp_))
                      repeat (go_quiet (first | ((with_reducible refine gate_store (t := 4) (p := 142) rfl ?_); (try (rw [drewN_self wc]; generalize hq_ : World.drewN wc _ = wc; have n0_ := Aside0.mk (Kd.R_at hq_ HO_5.out); have n1_ := Aside0.mk (Kd.R_at hq_ HO_6.out); have n2_ := Aside0.mk (blk_at hq_ BK216.out); have n3_ := Aside0.mk (blk_at hq_ BK217.out); have n4_ := Aside0.mk (blk_at hq_ BK225.out); have n5_ := Aside0.mk (below_at hq_ HB.out); clear hq_ HO_5 HO_6 BK216 BK217 BK225 HB; have HO_5 := n0_; have HO_6 := n1_; have BK216 := n2_; have BK217 := n3_; have BK225 := n4_; have HB := n5_; clear n0_ n1_ n2_ n3_ n4_ n5_; (try (have HP140 := Kd.R_putg HO_5.out (((rd_T50 l1_0 x7_2).f0) : Int) true)))); refine store_event (t := 4) (p := 142) (v := ?vo_w141) (w1 := (wc.setCell ⟨go133, (((rd_T50 l1_0 x7_2).f0) : Int).toNat, none⟩ (.bool true))) ?hg ?ho ?hn ?hr ?_; (case ho => rfl); (case hg => rfl); (case hn => rfl); (case hr => first | (go_simp; done) | (go_simp; rfl)); intro w141 hw; have hg : wc.grownBy w141 (some go133) := (by rw [hw]; exact HP140.2); have hp_ : Kd.R Kd.bool 4 w141 w.heap.size (fun k_ => some k_ ≠ (v222 : Value).ownBlock) (.slice (some ⟨go133, 0, none⟩) x5_2.length co133) y237 := (by rw [hw, Ny237.out]; exact HP140.1); clear HP140; have n0_ := Aside0.mk (hp_); have n1_ := Aside0.mk (Kd.R_after (v := (.slice (some ⟨go133, 0, none⟩) x5_2.length co133)) (v1 := (.slice (some ⟨go133, 0, none⟩) x5_2.length co133)) (ok := (fun _ => True)) (by (with_reducible repeat (first | apply Kd.R_alloc | apply Kd.R_drewN | apply Kd.R_drew)); exact Kd.R_mono HO_6.out (fun _ hk => ⟨trivial, hk⟩)) hg (.inl rfl)); have n2_ := Aside0.mk (blk_grown (g := gb216) (o := .cells #[.int .i64 a0_0, .int .i64 a0_1, .slice A0_2 l0_2.length c0_2] 24 (0, 0)) (by (with_reducible repeat (first | refine blk_drewN ?_ _ | refine blk_drew ?_ | refine blk_alloc ?_ _)); exact BK216.out) hg (Kd.R_ne HO_5.out BK216.out (by decide))); have n3_ := Aside0.mk (blk_grown (g := gb217) (o := .cells #[.slice (some ad224) l1_0.length c1_0, .slice A1_1 l1_1.length c1_1, .slice A1_2 l1_2.length c1_2] 28 (0, 0)) (by (with_reducible repeat (first | refine blk_drewN ?_ _ | refine blk_drew ?_ | refine blk_alloc ?_ _)); exact BK217.out) hg (Kd.R_ne HO_5.out BK217.out (by decide))); have n4_ := Aside0.mk (blk_grown (g := gb225) (o := .cells #[.int .i64 ((rd_T50 l1_0 x7_2).f0), .int .i64 ((rd_T50 l1_0 x7_2).f1)] 50 (0, 0)) (by (with_reducible repeat (first | refine blk_drewN ?_ _ | refine blk_drew ?_ | refine blk_alloc ?_ _)); exact BK225.out) hg (Kd.R_ne HO_5.out BK225.out (by decide))); have n5_ := Aside0.mk ((by rw [hw]; exact below_set (HB.out) GB133.out : Below w.heap.size w w141)); clear HO_5; clear HO_6; clear BK216; clear BK217; clear BK225; clear HB; have HO_5 := n0_; have HO_6 := n1_; have BK216 := n2_; have BK217 := n3_; have BK225 := n4_; have HB := n5_; clear n0_ n1_ n2_ n3_ n4_ n5_; clear hg hw hp_; have hcz142_0 : w141.cell? ⟨gb225, 0, none⟩ = some (.int .i64 ((rd_T50 l1_0 x7_2).f0)) := (blk_cell BK225.out 0).trans rfl; have hcz142_1 : w141.cell? ⟨gb225, 1, none⟩ = some (.int .i64 ((rd_T50 l1_0 x7_2).f1)) := (blk_cell BK225.out 1).trans rfl; have hfz142_0 := blk_frozen BK225.out 0; have hfz142_1 := blk_frozen BK225.out 1; have p136 : 0 ≤ (((rd_T50 l1_0 x7_2).f1) : Int) := of_decide_eq_true (by first | (with_reducible assumption) | assumption); have q136 : (((rd_T50 l1_0 x7_2).f1) : Int) < ((x6_2.length : Int) : Int) := of_decide_eq_true (by first | (with_reducible assumption) | assumption); obtain ⟨go136, co136, eo136, gb136, gl136, cl136, HG136⟩ := Kd.R_form HO_6.out (by omega); (first | cases eo136 | (injection eo136 with ea_ en_ ec_; (first | subst ea_ | (injection ea_ with ea_; subst ea_)); subst ec_; clear en_)); have GB136 := Aside0.mk gb136; have GG136 := Aside0.mk HG136; clear gb136 gl136 HG136; obtain ⟨hx136_0, hf136_0⟩ := Kd.R_celln false HO_6.out (((rd_T50 l1_0 x7_2).f1) : Int) p136 q136; replace p136 := eq_true p136; replace q136 := eq_true q136; have n_ := Aside0.mk (Kd.R_mono (ok' := (fun k_ => some k_ ≠ (.slice (some ⟨go133, 0, none⟩) x5_2.length co133 : Value).ownBlock)) HO_6.out (fun k_ hk => hk.2)); clear HO_6; have HO_6 := n_; clear n_; obtain ⟨hy143_, hz143_⟩ := Kd.R_celln false HO_6.out (((rd_T50 l1_0 x7_2).f1) : Int) (of_decide_eq_true (by first | (with_reducible assumption) | assumption)) (of_decide_eq_true (by first | (with_reducible assumption) | assumption)); have HP143 := Kd.R_putg HO_6.out (((rd_T50 l1_0 x7_2).f1) : Int) true) | ((with_reducible refine gate_store (t := 4) (p := 146) rfl ?_); (try (rw [drewN_self w141]; generalize hq_ : World.drewN w141 _ = w141; have n0_ := Aside0.mk (Kd.R_at hq_ HO_5.out); have n1_ := Aside0.mk (Kd.R_at hq_ HO_6.out); have n2_ := Aside0.mk (blk_at hq_ BK216.out); have n3_ := Aside0.mk (blk_at hq_ BK217.out); have n4_ := Aside0.mk (blk_at hq_ BK225.out); have n5_ := Aside0.mk (below_at hq_ HB.out); clear hq_ HO_5 HO_6 BK216 BK217 BK225 HB; have HO_5 := n0_; have HO_6 := n1_; have BK216 := n2_; have BK217 := n3_; have BK225 := n4_; have HB := n5_; clear n0_ n1_ n2_ n3_ n4_ n5_; (try (have n_ := Aside0.mk (Kd.R_mono (ok' := (fun k_ => some k_ ≠ (.slice (some ⟨go133, 0, none⟩) x5_2.length co133 : Value).ownBlock)) HO_6.out (fun k_ hk => hk.2)); clear HO_6; have HO_6 := n_; clear n_)); (try (obtain ⟨hy143_, hz143_⟩ := Kd.R_celln false HO_6.out (((rd_T50 l1_0 x7_2).f1) : Int) (of_decide_eq_true (by first | (with_reducible assumption) | assumption)) (of_decide_eq_true (by first | (with_reducible assumption) | assumption)))); (try (have HP143 := Kd.R_putg HO_6.out (((rd_T50 l1_0 x7_2).f1) : Int) true)))); refine store_event (t := 4) (p := 146) (v := ?vo_w144) (w1 := (w141.setCell ⟨go136, (((rd_T50 l1_0 x7_2).f1) : Int).toNat, none⟩ (.bool true))) ?hg ?ho ?hn ?hr ?_; (case ho => rfl); (case hg => rfl); (case hn => rfl); (case hr => first | (go_simp; done) | (go_simp; rfl)); intro w144 hw; have hg : w141.grownBy w144 (some go136) := (by rw [hw]; exact HP143.2); have hp_ : Kd.R Kd.bool 4 w144 w.heap.size (fun k_ => some k_ ≠ (.slice (some ⟨go133, 0, none⟩) x5_2.length co133 : Value).ownBlock) (.slice (some ⟨go136, 0, none⟩) x6_2.length co136) y238 := (by rw [hw, Ny238.out]; exact HP143.1); clear HP143; have n0_ := Aside0.mk (Kd.R_after (v := (.slice (some ⟨go136, 0, none⟩) x6_2.length co136)) (v1 := (.slice (some ⟨go136, 0, none⟩) x6_2.length co136)) (ok := (fun _ => True)) (by (with_reducible repeat (first | apply Kd.R_alloc | apply Kd.R_drewN | apply Kd.R_drew)); exact Kd.R_mono HO_5.out (fun _ hk => ⟨trivial, hk⟩)) hg (.inl rfl)); have n1_ := Aside0.mk (hp_); have n2_ := Aside0.mk (blk_grown (g := gb216) (o := .cells #[.int .i64 a0_0, .int .i64 a0_1, .slice A0_2 l0_2.length c0_2] 24 (0, 0)) (by (with_reducible repeat (first | refine blk_drewN ?_ _ | refine blk_drew ?_ | refine blk_alloc ?_ _)); exact BK216.out) hg (Kd.R_ne HO_6.out BK216.out (by decide))); have n3_ := Aside0.mk (blk_grown (g := gb217) (o := .cells #[.slice (some ad224) l1_0.length c1_0, .slice A1_1 l1_1.length c1_1, .slice A1_2 l1_2.length c1_2] 28 (0, 0)) (by (with_reducible repeat (first | refine blk_drewN ?_ _ | refine blk_drew ?_ | refine blk_alloc ?_ _)); exact BK217.out) hg (Kd.R_ne HO_6.out BK217.out (by decide))); have n4_ := Aside0.mk (blk_grown (g := gb225) (o := .cells #[.int .i64 ((rd_T50 l1_0 x7_2).f0), .int .i64 ((rd_T50 l1_0 x7_2).f1)] 50 (0, 0)) (by (with_reducible repeat (first | refine blk_drewN ?_ _ | refine blk_drew ?_ | refine blk_alloc ?_ _)); exact BK225.out) hg (Kd.R_ne HO_6.out BK225.out (by decide))); have n5_ := Aside0.mk ((by rw [hw]; exact below_set (HB.out) GB136.out : Below w.heap.size w w144)); clear HO_5; clear HO_6; clear BK216; clear BK217; clear BK225; clear HB; have HO_5 := n0_; have HO_6 := n1_; have BK216 := n2_; have BK217 := n3_; have BK225 := n4_; have HB := n5_; clear n0_ n1_ n2_ n3_ n4_ n5_; clear hg hw hp_)); try go_wp2_with (first | ((with_reducible refine gate_store (t := 4) (p := 142) rfl ?_); (try (rw [drewN_self wc]; generalize hq_ : World.drewN wc _ = wc; have n0_ := Aside0.mk (Kd.R_at hq_ HO_5.out); have n1_ := Aside0.mk (Kd.R_at hq_ HO_6.out); have n2_ := Aside0.mk (blk_at hq_ BK216.out); have n3_ := Aside0.mk (blk_at hq_ BK217.out); have n4_ := Aside0.mk (blk_at hq_ BK225.out); have n5_ := Aside0.mk (below_at hq_ HB.out); clear hq_ HO_5 HO_6 BK216 BK217 BK225 HB; have HO_5 := n0_; have HO_6 := n1_; have BK216 := n2_; have BK217 := n3_; have BK225 := n4_; have HB := n5_; clear n0_ n1_ n2_ n3_ n4_ n5_; (try (have HP140 := Kd.R_putg HO_5.out (((rd_T50 l1_0 x7_2).f0) : Int) true)))); refine store_event (t := 4) (p := 142) (v := ?vo_w141) (w1 := (wc.setCell ⟨go133, (((rd_T50 l1_0 x7_2).f0) : Int).toNat, none⟩ (.bool true))) ?hg ?ho ?hn ?hr ?_; (case ho => rfl); (case hg => rfl); (case hn => rfl); (case hr => first | (go_simp; done) | (go_simp; rfl)); intro w141 hw; have hg : wc.grownBy w141 (some go133) := (by rw [hw]; exact HP140.2); have hp_ : Kd.R Kd.bool 4 w141 w.heap.size (fun k_ => some k_ ≠ (v222 : Value).ownBlock) (.slice (some ⟨go133, 0, none⟩) x5_2.length co133) y237 := (by rw [hw, Ny237.out]; exact HP140.1); clear HP140; have n0_ := Aside0.mk (hp_); have n1_ := Aside0.mk (Kd.R_after (v := (.slice (some ⟨go133, 0, none⟩) x5_2.length co133)) (v1 := (.slice (some ⟨go133, 0, none⟩) x5_2.length co133)) (ok := (fun _ => True)) (by (with_reducible repeat (first | apply Kd.R_alloc | apply Kd.R_drewN | apply Kd.R_drew)); exact Kd.R_mono HO_6.out (fun _ hk => ⟨trivial, hk⟩)) hg (.inl rfl)); have n2_ := Aside0.mk (blk_grown (g := gb216) (o := .cells #[.int .i64 a0_0, .int .i64 a0_1, .slice A0_2 l0_2.length c0_2] 24 (0, 0)) (by (with_reducible repeat (first | refine blk_drewN ?_ _ | refine blk_drew ?_ | refine blk_alloc ?_ _)); exact BK216.out) hg (Kd.R_ne HO_5.out BK216.out (by decide))); have n3_ := Aside0.mk (blk_grown (g := gb217) (o := .cells #[.slice (some ad224) l1_0.length c1_0, .slice A1_1 l1_1.length c1_1, .slice A1_2 l1_2.length c1_2] 28 (0, 0)) (by (with_reducible repeat (first | refine blk_drewN ?_ _ | refine blk_drew ?_ | refine blk_alloc ?_ _)); exact BK217.out) hg (Kd.R_ne HO_5.out BK217.out (by decide))); have n4_ := Aside0.mk (blk_grown (g := gb225) (o := .cells #[.int .i64 ((rd_T50 l1_0 x7_2).f0), .int .i64 ((rd_T50 l1_0 x7_2).f1)] 50 (0, 0)) (by (with_reducible repeat (first | refine blk_drewN ?_ _ | refine blk_drew ?_ | refine blk_alloc ?_ _)); exact BK225.out) hg (Kd.R_ne HO_5.out BK225.out (by decide))); have n5_ := Aside0.mk ((by rw [hw]; exact below_set (HB.out) GB133.out : Below w.heap.size w w141)); clear HO_5; clear HO_6; clear BK216; clear BK217; clear BK225; clear HB; have HO_5 := n0_; have HO_6 := n1_; have BK216 := n2_; have BK217 := n3_; have BK225 := n4_; have HB := n5_; clear n0_ n1_ n2_ n3_ n4_ n5_; clear hg hw hp_; have hcz142_0 : w141.cell? ⟨gb225, 0, none⟩ = some (.int .i64 ((rd_T50 l1_0 x7_2).f0)) := (blk_cell BK225.out 0).trans rfl; have hcz142_1 : w141.cell? ⟨gb225, 1, none⟩ = some (.int .i64 ((rd_T50 l1_0 x7_2).f1)) := (blk_cell BK225.out 1).trans rfl; have hfz142_0 := blk_frozen BK225.out 0; have hfz142_1 := blk_frozen BK225.out 1; have p136 : 0 ≤ (((rd_T50 l1_0 x7_2).f1) : Int) := of_decide_eq_true (by first | (with_reducible assumption) | assumption); have q136 : (((rd_T50 l1_0 x7_2).f1) : Int) < ((x6_2.length : Int) : Int) := of_decide_eq_true (by first | (with_reducible assumption) | assumption); obtain ⟨go136, co136, eo136, gb136, gl136, cl136, HG136⟩ := Kd.R_form HO_6.out (by omega); (first | cases eo136 | (injection eo136 with ea_ en_ ec_; (first | subst ea_ | (injection ea_ with ea_; subst ea_)); subst ec_; clear en_)); have GB136 := Aside0.mk gb136; have GG136 := Aside0.mk HG136; clear gb136 gl136 HG136; obtain ⟨hx136_0, hf136_0⟩ := Kd.R_celln false HO_6.out (((rd_T50 l1_0 x7_2).f1) : Int) p136 q136; replace p136 := eq_true p136; replace q136 := eq_true q136; have n_ := Aside0.mk (Kd.R_mono (ok' := (fun k_ => some k_ ≠ (.slice (some ⟨go133, 0, none⟩) x5_2.length co133 : Value).ownBlock)) HO_6.out (fun k_ hk => hk.2)); clear HO_6; have HO_6 := n_; clear n_; obtain ⟨hy143_, hz143_⟩ := Kd.R_celln false HO_6.out (((rd_T50 l1_0 x7_2).f1) : Int) (of_decide_eq_true (by first | (with_reducible assumption) | assumption)) (of_decide_eq_true (by first | (with_reducible assumption) | assumption)); have HP143 := Kd.R_putg HO_6.out (((rd_T50 l1_0 x7_2).f1) : Int) true) | ((with_reducible refine gate_store (t := 4) (p := 146) rfl ?_); (try (rw [drewN_self w141]; generalize hq_ : World.drewN w141 _ = w141; have n0_ := Aside0.mk (Kd.R_at hq_ HO_5.out); have n1_ := Aside0.mk (Kd.R_at hq_ HO_6.out); have n2_ := Aside0.mk (blk_at hq_ BK216.out); have n3_ := Aside0.mk (blk_at hq_ BK217.out); have n4_ := Aside0.mk (blk_at hq_ BK225.out); have n5_ := Aside0.mk (below_at hq_ HB.out); clear hq_ HO_5 HO_6 BK216 BK217 BK225 HB; have HO_5 := n0_; have HO_6 := n1_; have BK216 := n2_; have BK217 := n3_; have BK225 := n4_; have HB := n5_; clear n0_ n1_ n2_ n3_ n4_ n5_; (try (have n_ := Aside0.mk (Kd.R_mono (ok' := (fun k_ => some k_ ≠ (.slice (some ⟨go133, 0, none⟩) x5_2.length co133 : Value).ownBlock)) HO_6.out (fun k_ hk => hk.2)); clear HO_6; have HO_6 := n_; clear n_)); (try (obtain ⟨hy143_, hz143_⟩ := Kd.R_celln false HO_6.out (((rd_T50 l1_0 x7_2).f1) : Int) (of_decide_eq_true (by first | (with_reducible assumption) | assumption)) (of_decide_eq_true (by first | (with_reducible assumption) | assumption)))); (try (have HP143 := Kd.R_putg HO_6.out (((rd_T50 l1_0 x7_2).f1) : Int) true)))); refine store_event (t := 4) (p := 146) (v := ?vo_w144) (w1 := (w141.setCell ⟨go136, (((rd_T50 l1_0 x7_2).f1) : Int).toNat, none⟩ (.bool true))) ?hg ?ho ?hn ?hr ?_; (case ho => rfl); (case hg => rfl); (case hn => rfl); (case hr => first | (go_simp; done) | (go_simp; rfl)); intro w144 hw; have hg : w141.grownBy w144 (some go136) := (by rw [hw]; exact HP143.2); have hp_ : Kd.R Kd.bool 4 w144 w.heap.size (fun k_ => some k_ ≠ (.slice (some ⟨go133, 0, none⟩) x5_2.length co133 : Value).ownBlock) (.slice (some ⟨go136, 0, none⟩) x6_2.length co136) y238 := (by rw [hw, Ny238.out]; exact HP143.1); clear HP143; have n0_ := Aside0.mk (Kd.R_after (v := (.slice (some ⟨go136, 0, none⟩) x6_2.length co136)) (v1 := (.slice (some ⟨go136, 0, none⟩) x6_2.length co136)) (ok := (fun _ => True)) (by (with_reducible repeat (first | apply Kd.R_alloc | apply Kd.R_drewN | apply Kd.R_drew)); exact Kd.R_mono HO_5.out (fun _ hk => ⟨trivial, hk⟩)) hg (.inl rfl)); have n1_ := Aside0.mk (hp_); have n2_ := Aside0.mk (blk_grown (g := gb216) (o := .cells #[.int .i64 a0_0, .int .i64 a0_1, .slice A0_2 l0_2.length c0_2] 24 (0, 0)) (by (with_reducible repeat (first | refine blk_drewN ?_ _ | refine blk_drew ?_ | refine blk_alloc ?_ _)); exact BK216.out) hg (Kd.R_ne HO_6.out BK216.out (by decide))); have n3_ := Aside0.mk (blk_grown (g := gb217) (o := .cells #[.slice (some ad224) l1_0.length c1_0, .slice A1_1 l1_1.length c1_1, .slice A1_2 l1_2.length c1_2] 28 (0, 0)) (by (with_reducible repeat (first | refine blk_drewN ?_ _ | refine blk_drew ?_ | refine blk_alloc ?_ _)); exact BK217.out) hg (Kd.R_ne HO_6.out BK217.out (by decide))); have n4_ := Aside0.mk (blk_grown (g := gb225) (o := .cells #[.int .i64 ((rd_T50 l1_0 x7_2).f0), .int .i64 ((rd_T50 l1_0 x7_2).f1)] 50 (0, 0)) (by (with_reducible repeat (first | refine blk_drewN ?_ _ | refine blk_drew ?_ | refine blk_alloc ?_ _)); exact BK225.out) hg (Kd.R_ne HO_6.out BK225.out (by decide))); have n5_ := Aside0.mk ((by rw [hw]; exact below_set (HB.out) GB136.out : Below w.heap.size w w144)); clear HO_5; clear HO_6; clear BK216; clear BK217; clear BK225; clear HB; have HO_5 := n0_; have HO_6 := n1_; have BK216 := n2_; have BK217 := n3_; have BK225 := n4_; have HB := n5_; clear n0_ n1_ n2_ n3_ n4_ n5_; clear hg hw hp_)))
                      go_roundg kj97
                      case measure => have := HJ2.out; have := HK2.out; have := HJ26.out; have := HJ97.out; omega
                      case rel => exact ⟨(y237), (y238), (wrap64 (x7_2 + 1)), (by first | rfl | (simp; done) | (simp [*]; done)), H', ⟨by have := HJ2.out; have := HK2.out; have := HJ26.out; have := HJ97.out; omega⟩, ⟨by (with_reducible repeat (first | apply Kd.R_alloc | apply Kd.R_drewN | apply Kd.R_drew)); exact Kd.R_mono HO_5.out (fun _ hk => hk.2)⟩, ⟨by (with_reducible repeat (first | apply Kd.R_alloc | apply Kd.R_drewN | apply Kd.R_drew)); exact HO_6.out⟩, ⟨by (with_reducible repeat (first | refine blk_drewN ?_ _ | refine blk_drew ?_ | refine blk_alloc ?_ _)); exact BK216.out⟩, ⟨by (with_reducible repeat (first | refine blk_drewN ?_ _ | refine blk_drew ?_ | refine blk_alloc ?_ _)); exact BK217.out⟩, ⟨by repeat (first | (with_reducible first | exact HB.out | apply below_alloc | apply pw_below_drewN | apply below_drew1 | refine below_set ?_ GE216.out | refine below_set ?_ GE217.out | refine below_set ?_ GE225.out) | exact HB.out)⟩⟩
                     ·rw [if_neg c135] at H
                      exact absurd H (by simp)
                    ·rw [if_neg c134] at H
                     exact absurd H (by simp)
                   ·rw [if_neg c132] at H
                    exact absurd H (by simp)
                  ·rw [if_neg c131] at H
                   exact absurd H (by simp)
           ·rw [if_neg c26] at H
            exact absurd H (by simp)
          ·rw [if_neg c25] at H
           have c25b0 : decide (x7_2 < (l1_0.length : Int)) = false := decide_eq_false c25
           clear c25
           have H' := Aside0.mk H
           clear H
           have hnb145 := NB217_216.out
           have hnc145 := NB216_217.out
           have hcz146_0 : wr.cell? ⟨gb217, 0, none⟩ = some (.slice A1_0 l1_0.length c1_0) := (blk_cell BK217.out 0).trans rfl
           have hcz146_1 : wr.cell? ⟨gb217, 1, none⟩ = some (.slice A1_1 l1_1.length c1_1) := (blk_cell BK217.out 1).trans rfl
           have hcz146_2 : wr.cell? ⟨gb217, 2, none⟩ = some (.slice A1_2 l1_2.length c1_2) := (blk_cell BK217.out 2).trans rfl
           have hfz146_0 := blk_frozen BK217.out 0
           have hfz146_1 := blk_frozen BK217.out 1
           have hfz146_2 := blk_frozen BK217.out 2
           go_wp2
           repeat (go_quiet (fail); try go_wp2)
           go_loopg [10] k2 (fun kq v10 w' => ∃ (x10_3 : Int), v10 = .int .i64 x10_3 ∧ Aside0 (cabstandlaw18_tight.l1 kq x5_2 x6_2 x10_3 a0_0 a0_1 l0_2 l1_0 l1_1 l1_2 = some r) ∧ Aside0 (kq ≤ k2) ∧ Aside0 (Kd.R Kd.bool 4 w' w.heap.size (fun k_ => some k_ ≠ (v222 : Value).ownBlock) v219 x5_2) ∧ Aside0 (Kd.R Kd.bool 4 w' w.heap.size (fun k_ => some k_ ≠ (v219 : Value).ownBlock) v222 x6_2) ∧ Aside0 (w'.heap[gb216]? = some (.cells #[.int .i64 a0_0, .int .i64 a0_1, (.slice A0_2 l0_2.length c0_2)] 24 (0, 0))) ∧ Aside0 (w'.heap[gb217]? = some (.cells #[(.slice A1_0 l1_0.length c1_0), (.slice A1_1 l1_1.length c1_1), (.slice A1_2 l1_2.length c1_2)] 28 (0, 0))) ∧ Aside0 (Below w.heap.size w w'))
           case atStart => exact ⟨(0), (by first | rfl | (simp; done) | (simp [*]; done)), H', ⟨Nat.le_refl _⟩, ⟨by (with_reducible repeat (first | apply Kd.R_alloc | apply Kd.R_drewN | apply Kd.R_drew)); exact HO_5.out⟩, ⟨by (with_reducible repeat (first | apply Kd.R_alloc | apply Kd.R_drewN | apply Kd.R_drew)); exact HO_6.out⟩, ⟨by (with_reducible repeat (first | refine blk_drewN ?_ _ | refine blk_drew ?_ | refine blk_alloc ?_ _)); exact BK216.out⟩, ⟨by (with_reducible repeat (first | refine blk_drewN ?_ _ | refine blk_drew ?_ | refine blk_alloc ?_ _)); exact BK217.out⟩, ⟨by repeat (first | (with_reducible first | exact HB.out | apply below_alloc | apply pw_below_drewN | apply below_drew1 | refine below_set ?_ GE216.out | refine below_set ?_ GE217.out) | exact HB.out)⟩⟩
           case round =>
            as_aux_lemma =>
            clear H'
            try clear c1
            try clear p1
            try clear q1
            try clear hx1
            try clear c2
            try clear p2
            try clear q2
            try clear hx2
            try clear c3
            try clear c4
            try clear c5
            try clear q5
            try clear c6
            try clear c6b0
            try clear c6b1
            try clear p6
            try clear q6
            try clear c7
            try clear c8
            try clear c9
            try clear c10
            try clear c11
            try clear c12
            try clear c13
            try clear p13
            try clear q13
            try clear hx13
            try clear hf13
            try clear c14
            try clear c14b0
            try clear c14b1
            try clear c15
            try clear c15b0
            try clear c15b1
            try clear c16
            try clear c16b0
            try clear c16b1
            try clear c17
            try clear c17b0
            try clear c17b1
            try clear c18
            try clear p22
            try clear q22
            try clear hx22
            try clear p23
            try clear q23
            try clear hx23
            try clear c25
            try clear c25b0
            try clear c26
            try clear c26b0
            try clear c28
            try clear c31
            try clear c32
            try clear c34
            try clear c34b0
            try clear c35
            try clear c36
            try clear c38
            try clear c38b0
            try clear c39
            try clear c40
            try clear c42
            try clear c44
            try clear c44b0
            try clear c45
            try clear c46
            try clear c48
            try clear c50
            try clear c50b0
            try clear c51
            try clear c52
            try clear c54
            try clear c56
            try clear c56b0
            try clear c57
            try clear c57b0
            try clear q58
            try clear c59
            try clear c60
            try clear c61
            try clear c63
            try clear p64
            try clear c66
            try clear c66b0
            try clear c67
            try clear c67b0
            try clear q68
            try clear c69
            try clear c70
            try clear c71
            try clear c73
            try clear c77
            try clear c77b0
            try clear c79
            try clear c79b0
            try clear c80
            try clear c80b0
            try clear c81
            try clear c82
            try clear c84
            try clear c89
            try clear c90
            try clear c92
            try clear c96
            try clear c99
            try clear c100
            try clear c102
            try clear c108
            try clear c108b0
            try clear c108b1
            try clear c109
            try clear c109b0
            try clear c110
            try clear c110b0
            try clear c111
            try clear c111b0
            try clear c112
            try clear c113
            try clear c115
            try clear c117
            try clear c117b0
            try clear c118
            try clear c119
            try clear c121
            try clear c123
            try clear c123b0
            try clear c124
            try clear c124b0
            try clear c125
            try clear c126
            try clear c128
            try clear c130
            try clear c131
            try clear c131b0
            try clear c132
            try clear c132b0
            try clear p133
            try clear q133
            try clear hx133
            try clear hf133
            try clear c134
            try clear c134b0
            try clear c135
            try clear c135b0
            try clear p136
            try clear q136
            try clear hx136
            try clear hf136
            try clear c137
            try clear c138
            try clear c145
            try clear hcz101_0
            try clear hcz101_1
            try clear hcz101_2
            try clear hcz103_0
            try clear hcz103_1
            try clear hcz114_0
            try clear hcz114_1
            try clear hcz114_2
            try clear hcz116_0
            try clear hcz116_1
            try clear hcz11_0
            try clear hcz11_1
            try clear hcz11_2
            try clear hcz120_0
            try clear hcz120_1
            try clear hcz120_2
            try clear hcz122_0
            try clear hcz122_1
            try clear hcz127_0
            try clear hcz127_1
            try clear hcz127_2
            try clear hcz129_0
            try clear hcz129_1
            try clear hcz12_0
            try clear hcz12_1
            try clear hcz12_2
            try clear hcz139_0
            try clear hcz139_1
            try clear hcz142_0
            try clear hcz142_1
            try clear hcz146_0
            try clear hcz146_1
            try clear hcz146_2
            try clear hcz19_0
            try clear hcz19_1
            try clear hcz19_2
            try clear hcz22_0
            try clear hcz22_1
            try clear hcz22_2
            try clear hcz29_0
            try clear hcz29_1
            try clear hcz29_2
            try clear hcz33_0
            try clear hcz33_1
            try clear hcz37_0
            try clear hcz37_1
            try clear hcz41_0
            try clear hcz41_1
            try clear hcz43_0
            try clear hcz43_1
            try clear hcz43_2
            try clear hcz47_0
            try clear hcz47_1
            try clear hcz49_0
            try clear hcz49_1
            try clear hcz49_2
            try clear hcz53_0
            try clear hcz53_1
            try clear hcz55_0
            try clear hcz55_1
            try clear hcz55_2
            try clear hcz62_0
            try clear hcz62_1
            try clear hcz64_0
            try clear hcz64_1
            try clear hcz64_2
            try clear hcz72_0
            try clear hcz72_1
            try clear hcz74_0
            try clear hcz74_1
            try clear hcz74_2
            try clear hcz83_0
            try clear hcz83_1
            try clear hcz85_0
            try clear hcz85_1
            try clear hcz85_2
            try clear hcz88_0
            try clear hcz88_1
            try clear hcz88_2
            try clear hcz8_0
            try clear hcz8_1
            try clear hcz8_2
            try clear hcz91_0
            try clear hcz91_1
            try clear hcz93_0
            try clear hcz93_1
            try clear hcz93_2
            try clear hcz9_0
            try clear hcz9_1
            try clear hcz9_2
            try clear hfz101_0
            try clear hfz101_1
            try clear hfz101_2
            try clear hfz103_0
            try clear hfz103_1
            try clear hfz114_0
            try clear hfz114_1
            try clear hfz114_2
            try clear hfz116_0
            try clear hfz116_1
            try clear hfz11_0
            try clear hfz11_1
            try clear hfz11_2
            try clear hfz120_0
            try clear hfz120_1
            try clear hfz120_2
            try clear hfz122_0
            try clear hfz122_1
            try clear hfz127_0
            try clear hfz127_1
            try clear hfz127_2
            try clear hfz129_0
            try clear hfz129_1
            try clear hfz12_0
            try clear hfz12_1
            try clear hfz12_2
            try clear hfz139_0
            try clear hfz139_1
            try clear hfz142_0
            try clear hfz142_1
            try clear hfz146_0
            try clear hfz146_1
            try clear hfz146_2
            try clear hfz19_0
            try clear hfz19_1
            try clear hfz19_2
            try clear hfz22_0
            try clear hfz22_1
            try clear hfz22_2
            try clear hfz29_0
            try clear hfz29_1
            try clear hfz29_2
            try clear hfz33_0
            try clear hfz33_1
            try clear hfz37_0
            try clear hfz37_1
            try clear hfz41_0
            try clear hfz41_1
            try clear hfz43_0
            try clear hfz43_1
            try clear hfz43_2
            try clear hfz47_0
            try clear hfz47_1
            try clear hfz49_0
            try clear hfz49_1
            try clear hfz49_2
            try clear hfz53_0
            try clear hfz53_1
            try clear hfz55_0
            try clear hfz55_1
            try clear hfz55_2
            try clear hfz62_0
            try clear hfz62_1
            try clear hfz64_0
            try clear hfz64_1
            try clear hfz64_2
            try clear hfz72_0
            try clear hfz72_1
            try clear hfz74_0
            try clear hfz74_1
            try clear hfz74_2
            try clear hfz83_0
            try clear hfz83_1
            try clear hfz85_0
            try clear hfz85_1
            try clear hfz85_2
            try clear hfz88_0
            try clear hfz88_1
            try clear hfz88_2
            try clear hfz8_0
            try clear hfz8_1
            try clear hfz8_2
            try clear hfz91_0
            try clear hfz91_1
            try clear hfz93_0
            try clear hfz93_1
            try clear hfz93_2
            try clear hfz9_0
            try clear hfz9_1
            try clear hfz9_2
            try clear hx133_0
            try clear hx136_0
            try clear hx224_0
            try clear hx224_1
            try clear hx226_0
            try clear hx227_0
            try clear hx228_0
            try clear hx228_1
            try clear hx233_0
            try clear hx234_0
            try clear hx235_0
            try clear hx236_0
            try clear p133
            try clear p136
            try clear p2
            try clear p22
            try clear p224
            try clear p226
            try clear p227
            try clear p228
            try clear p23
            try clear p233
            try clear p234
            try clear p235
            try clear p236
            try clear p6
            try clear p64
            try clear q133
            try clear q136
            try clear q2
            try clear q22
            try clear q224
            try clear q226
            try clear q227
            try clear q228
            try clear q23
            try clear q233
            try clear q234
            try clear q235
            try clear q236
            try clear q5
            try clear q58
            try clear q6
            try clear q68
            obtain ⟨x10_3, rfl, HA, HK3, HO_5, HO_6, BK216, BK217, HB⟩ := hrel
            cases gk with
            | zero => exact absurd HA.out (by simp [cabstandlaw18_tight.l1])
            | succ k3 =>
             have H := HA.out
             clear HA
             simp only [cabstandlaw18_tight.l1] at H
             by_cases c147 : x10_3 < a0_0
             ·rw [if_pos c147] at H
              have c147b0 : decide (x10_3 < a0_0) = true := decide_eq_true c147
              clear c147
              by_cases c148 : 0 ≤ x10_3
              ·rw [if_pos c148] at H
               have c148b0 : decide (0 ≤ x10_3) = true := decide_eq_true c148
               clear c148
               by_cases c149 : x10_3 < (x5_2.length : Int)
               ·rw [if_pos c149] at H
                have c149b0 : decide (x10_3 < (x5_2.length : Int)) = true := decide_eq_true c149
                clear c149
                obtain ⟨bq150, hbq150⟩ : ∃ b_ : Bool, b_ = (rdOf false x5_2 x10_3) := ⟨_, rfl⟩
                replace H : (if bq150 = true then (cabstandlaw18_tight.l1 k3 x5_2 x6_2 (wrap64 (x10_3 + 1)) a0_0 a0_1 l0_2 l1_0 l1_1 l1_2) else (if x10_3 < (l1_1.length : Int) then (if (rd l1_1 x10_3) = 0 then (cabstandlaw18_tight.l1 k3 x5_2 x6_2 (wrap64 (x10_3 + 1)) a0_0 a0_1 l0_2 l1_0 l1_1 l1_2) else (some false)) else (none))) = some r := by rw [← hbq150] at H; exact H
                have Nbq150 := Aside0.mk hbq150
                clear hbq150
                by_cases c151 : bq150 = true
                ·subst c151
                 have H1 : (cabstandlaw18_tight.l1 k3 x5_2 x6_2 (wrap64 (x10_3 + 1)) a0_0 a0_1 l0_2 l1_0 l1_1 l1_2) = some r := by rw [if_pos rfl] at H; exact H
                 clear H
                 have H := H1
                 clear H1
                 have H' := Aside0.mk H
                 clear H
                 have hnb152 := NB216_217.out
                 have hnc152 := NB217_216.out
                 have hcz153_0 : wr.cell? ⟨gb216, 0, none⟩ = some (.int .i64 a0_0) := (blk_cell BK216.out 0).trans rfl
                 have hcz153_1 : wr.cell? ⟨gb216, 1, none⟩ = some (.int .i64 a0_1) := (blk_cell BK216.out 1).trans rfl
                 have hcz153_2 : wr.cell? ⟨gb216, 2, none⟩ = some (.slice A0_2 l0_2.length c0_2) := (blk_cell BK216.out 2).trans rfl
                 have hfz153_0 := blk_frozen BK216.out 0
                 have hfz153_1 := blk_frozen BK216.out 1
                 have hfz153_2 := blk_frozen BK216.out 2
                 obtain ⟨Ao154, co154, eo154⟩ := Kd.R_slice HO_5.out
                 subst eo154
                 have p239 : 0 ≤ (x10_3 : Int) := of_decide_eq_true (by first | (with_reducible assumption) | assumption)
                 have q239 : x10_3 < (x5_2.length : Int) := of_decide_eq_true (by first | (with_reducible assumption) | assumption)
                 obtain ⟨ad239, e239, hx239_0⟩ := Kd.at_bool (Kd.R_reads' HO_5.out).2.2 x10_3 p239 q239
                 (try rw [← Nbq150.out] at hx239_0)
                 cases e239
                 replace p239 := eq_true p239
                 replace q239 := eq_true q239
                 go_wp2
                 repeat (go_quiet (fail); try go_wp2)
                 go_roundg k3
                 case measure => have := HJ2.out; have := HK2.out; have := HK3.out; omega
                 case rel => exact ⟨(wrap64 (x10_3 + 1)), (by first | rfl | (simp; done) | (simp [*]; done)), H', ⟨by have := HJ2.out; have := HK2.out; have := HK3.out; omega⟩, ⟨by (with_reducible repeat (first | apply Kd.R_alloc | apply Kd.R_drewN | apply Kd.R_drew)); exact HO_5.out⟩, ⟨by (with_reducible repeat (first | apply Kd.R_alloc | apply Kd.R_drewN | apply Kd.R_drew)); exact HO_6.out⟩, ⟨by (with_reducible repeat (first | refine blk_drewN ?_ _ | refine blk_drew ?_ | refine blk_alloc ?_ _)); exact BK216.out⟩, ⟨by (with_reducible repeat (first | refine blk_drewN ?_ _ | refine blk_drew ?_ | refine blk_alloc ?_ _)); exact BK217.out⟩, ⟨by repeat (first | (with_reducible first | exact HB.out | apply below_alloc | apply pw_below_drewN | apply below_drew1 | refine below_set ?_ GE216.out | refine below_set ?_ GE217.out) | exact HB.out)⟩⟩
                ·replace c151 := Bool.eq_false_iff.mpr c151
                 subst c151
                 have H1 : (if x10_3 < (l1_1.length : Int) then (if (rd l1_1 x10_3) = 0 then (cabstandlaw18_tight.l1 k3 x5_2 x6_2 (wrap64 (x10_3 + 1)) a0_0 a0_1 l0_2 l1_0 l1_1 l1_2) else (some false)) else (none)) = some r := by rw [if_neg (show ¬ (false = true) by decide)] at H; exact H
                 clear H
                 have H := H1
                 clear H1
                 by_cases c155 : x10_3 < (l1_1.length : Int)
                 ·rw [if_pos c155] at H
                  have c155b0 : decide (x10_3 < (l1_1.length : Int)) = true := decide_eq_true c155
                  clear c155
                  by_cases c156 : (rd l1_1 x10_3) = 0
                  ·rw [if_pos c156] at H
                   have c156b0 : ((rd l1_1 x10_3) == 0) = true := beq_iff_eq.mpr c156
                   have c156b1 : ((rd l1_1 x10_3) != 0) = false := bne_eq_false_iff_eq.mpr c156
                   clear c156
                   have H' := Aside0.mk H
                   clear H
                   have hnb157 := NB216_217.out
                   have hnc157 := NB217_216.out
                   have hcz158_0 : wr.cell? ⟨gb216, 0, none⟩ = some (.int .i64 a0_0) := (blk_cell BK216.out 0).trans rfl
                   have hcz158_1 : wr.cell? ⟨gb216, 1, none⟩ = some (.int .i64 a0_1) := (blk_cell BK216.out 1).trans rfl
                   have hcz158_2 : wr.cell? ⟨gb216, 2, none⟩ = some (.slice A0_2 l0_2.length c0_2) := (blk_cell BK216.out 2).trans rfl
                   have hfz158_0 := blk_frozen BK216.out 0
                   have hfz158_1 := blk_frozen BK216.out 1
                   have hfz158_2 := blk_frozen BK216.out 2
                   obtain ⟨Ao159, co159, eo159⟩ := Kd.R_slice HO_5.out
                   subst eo159
                   have p239 : 0 ≤ (x10_3 : Int) := of_decide_eq_true (by first | (with_reducible assumption) | assumption)
                   have q239 : x10_3 < (x5_2.length : Int) := of_decide_eq_true (by first | (with_reducible assumption) | assumption)
                   obtain ⟨ad239, e239, hx239_0⟩ := Kd.at_bool (Kd.R_reads' HO_5.out).2.2 x10_3 p239 q239
                   (try rw [← Nbq150.out] at hx239_0)
                   cases e239
                   replace p239 := eq_true p239
                   replace q239 := eq_true q239
                   have hcz160_0 : wr.cell? ⟨gb217, 0, none⟩ = some (.slice A1_0 l1_0.length c1_0) := (blk_cell BK217.out 0).trans rfl
                   have hcz160_1 : wr.cell? ⟨gb217, 1, none⟩ = some (.slice A1_1 l1_1.length c1_1) := (blk_cell BK217.out 1).trans rfl
                   have hcz160_2 : wr.cell? ⟨gb217, 2, none⟩ = some (.slice A1_2 l1_2.length c1_2) := (blk_cell BK217.out 2).trans rfl
                   have hfz160_0 := blk_frozen BK217.out 0
                   have hfz160_1 := blk_frozen BK217.out 1
                   have hfz160_2 := blk_frozen BK217.out 2
                   have p240 : 0 ≤ (x10_3 : Int) := of_decide_eq_true (by first | (with_reducible assumption) | assumption)
                   have q240 : x10_3 < (l1_1.length : Int) := of_decide_eq_true (by first | (with_reducible assumption) | assumption)
                   obtain ⟨ad240, e240, hx240_0⟩ := Kd.at_int HR1_1.out x10_3 p240 q240
                   cases e240
                   replace hx240_0 := (HB.out.cell (World.block_lt_of_cell? w _ hx240_0)).trans hx240_0
                   replace p240 := eq_true p240
                   replace q240 := eq_true q240
                   go_wp2
                   repeat (go_quiet (fail); try go_wp2)
                   go_roundg k3
                   case measure => have := HJ2.out; have := HK2.out; have := HK3.out; omega
                   case rel => exact ⟨(wrap64 (x10_3 + 1)), (by first | rfl | (simp; done) | (simp [*]; done)), H', ⟨by have := HJ2.out; have := HK2.out; have := HK3.out; omega⟩, ⟨by (with_reducible repeat (first | apply Kd.R_alloc | apply Kd.R_drewN | apply Kd.R_drew)); exact HO_5.out⟩, ⟨by (with_reducible repeat (first | apply Kd.R_alloc | apply Kd.R_drewN | apply Kd.R_drew)); exact HO_6.out⟩, ⟨by (with_reducible repeat (first | refine blk_drewN ?_ _ | refine blk_drew ?_ | refine blk_alloc ?_ _)); exact BK216.out⟩, ⟨by (with_reducible repeat (first | refine blk_drewN ?_ _ | refine blk_drew ?_ | refine blk_alloc ?_ _)); exact BK217.out⟩, ⟨by repeat (first | (with_reducible first | exact HB.out | apply below_alloc | apply pw_below_drewN | apply below_drew1 | refine below_set ?_ GE216.out | refine below_set ?_ GE217.out) | exact HB.out)⟩⟩
                  ·rw [if_neg c156] at H
                   have c156b0 : ((rd l1_1 x10_3) == 0) = false := beq_eq_false_iff_ne.mpr c156
                   have c156b1 : ((rd l1_1 x10_3) != 0) = true := bne_iff_ne.mpr c156
                   obtain rfl := Option.some.inj H
                   have hnb161 := NB216_217.out
                   have hnc161 := NB217_216.out
                   have hcz162_0 : wr.cell? ⟨gb216, 0, none⟩ = some (.int .i64 a0_0) := (blk_cell BK216.out 0).trans rfl
                   have hcz162_1 : wr.cell? ⟨gb216, 1, none⟩ = some (.int .i64 a0_1) := (blk_cell BK216.out 1).trans rfl
                   have hcz162_2 : wr.cell? ⟨gb216, 2, none⟩ = some (.slice A0_2 l0_2.length c0_2) := (blk_cell BK216.out 2).trans rfl
                   have hfz162_0 := blk_frozen BK216.out 0
                   have hfz162_1 := blk_frozen BK216.out 1
                   have hfz162_2 := blk_frozen BK216.out 2
                   obtain ⟨Ao163, co163, eo163⟩ := Kd.R_slice HO_5.out
                   subst eo163
                   have p239 : 0 ≤ (x10_3 : Int) := of_decide_eq_true (by first | (with_reducible assumption) | assumption)
                   have q239 : x10_3 < (x5_2.length : Int) := of_decide_eq_true (by first | (with_reducible assumption) | assumption)
                   obtain ⟨ad239, e239, hx239_0⟩ := Kd.at_bool (Kd.R_reads' HO_5.out).2.2 x10_3 p239 q239
                   (try rw [← Nbq150.out] at hx239_0)
                   cases e239
                   replace p239 := eq_true p239
                   replace q239 := eq_true q239
                   have hcz164_0 : wr.cell? ⟨gb217, 0, none⟩ = some (.slice A1_0 l1_0.length c1_0) := (blk_cell BK217.out 0).trans rfl
                   have hcz164_1 : wr.cell? ⟨gb217, 1, none⟩ = some (.slice A1_1 l1_1.length c1_1) := (blk_cell BK217.out 1).trans rfl
                   have hcz164_2 : wr.cell? ⟨gb217, 2, none⟩ = some (.slice A1_2 l1_2.length c1_2) := (blk_cell BK217.out 2).trans rfl
                   have hfz164_0 := blk_frozen BK217.out 0
                   have hfz164_1 := blk_frozen BK217.out 1
                   have hfz164_2 := blk_frozen BK217.out 2
                   have p240 : 0 ≤ (x10_3 : Int) := of_decide_eq_true (by first | (with_reducible assumption) | assumption)
                   have q240 : x10_3 < (l1_1.length : Int) := of_decide_eq_true (by first | (with_reducible assumption) | assumption)
                   obtain ⟨ad240, e240, hx240_0⟩ := Kd.at_int HR1_1.out x10_3 p240 q240
                   cases e240
                   replace hx240_0 := (HB.out.cell (World.block_lt_of_cell? w _ hx240_0)).trans hx240_0
                   replace p240 := eq_true p240
                   replace q240 := eq_true q240
                   go_wp2
                   repeat (go_quiet (fail); try go_wp2)
                   go_ret
                   exact ⟨by first | rfl | (simp [errW_none, errW_some] <;> rfl) | (simp [*, errW_none, errW_some] <;> rfl), by repeat (first | (with_reducible first | exact HB.out | apply below_alloc | apply pw_below_drewN | apply below_drew1 | refine below_set ?_ GE216.out | refine below_set ?_ GE217.out) | exact HB.out)⟩
                 ·rw [if_neg c155] at H
                  exact absurd H (by simp)
               ·rw [if_neg c149] at H
                exact absurd H (by simp)
              ·rw [if_neg c148] at H
               exact absurd H (by simp)
             ·rw [if_neg c147] at H
              have c147b0 : decide (x10_3 < a0_0) = false := decide_eq_false c147
              clear c147
              have H' := Aside0.mk H
              clear H
              have hnb165 := NB216_217.out
              have hnc165 := NB217_216.out
              have hcz166_0 : wr.cell? ⟨gb216, 0, none⟩ = some (.int .i64 a0_0) := (blk_cell BK216.out 0).trans rfl
              have hcz166_1 : wr.cell? ⟨gb216, 1, none⟩ = some (.int .i64 a0_1) := (blk_cell BK216.out 1).trans rfl
              have hcz166_2 : wr.cell? ⟨gb216, 2, none⟩ = some (.slice A0_2 l0_2.length c0_2) := (blk_cell BK216.out 2).trans rfl
              have hfz166_0 := blk_frozen BK216.out 0
              have hfz166_1 := blk_frozen BK216.out 1
              have hfz166_2 := blk_frozen BK216.out 2
              go_wp2
              repeat (go_quiet (fail); try go_wp2)
              go_loopg [11] k3 (fun kq v11 w' => ∃ (x11_4 : Int), v11 = .int .i64 x11_4 ∧ Aside0 (cabstandlaw18_tight.l2 kq x6_2 x11_4 a0_0 a0_1 l0_2 l1_0 l1_1 l1_2 = some r) ∧ Aside0 (kq ≤ k3) ∧ Aside0 (Kd.R Kd.bool 4 w' w.heap.size (fun _ => True) v222 x6_2) ∧ Aside0 (w'.heap[gb216]? = some (.cells #[.int .i64 a0_0, .int .i64 a0_1, (.slice A0_2 l0_2.length c0_2)] 24 (0, 0))) ∧ Aside0 (w'.heap[gb217]? = some (.cells #[(.slice A1_0 l1_0.length c1_0), (.slice A1_1 l1_1.length c1_1), (.slice A1_2 l1_2.length c1_2)] 28 (0, 0))) ∧ Aside0 (Below w.heap.size w w'))
              case atStart => exact ⟨(0), (by first | rfl | (simp; done) | (simp [*]; done)), H', ⟨Nat.le_refl _⟩, ⟨by (with_reducible repeat (first | apply Kd.R_alloc | apply Kd.R_drewN | apply Kd.R_drew)); exact Kd.R_mono HO_6.out (fun _ hk => trivial)⟩, ⟨by (with_reducible repeat (first | refine blk_drewN ?_ _ | refine blk_drew ?_ | refine blk_alloc ?_ _)); exact BK216.out⟩, ⟨by (with_reducible repeat (first | refine blk_drewN ?_ _ | refine blk_drew ?_ | refine blk_alloc ?_ _)); exact BK217.out⟩, ⟨by repeat (first | (with_reducible first | exact HB.out | apply below_alloc | apply pw_below_drewN | apply below_drew1 | refine below_set ?_ GE216.out | refine below_set ?_ GE217.out) | exact HB.out)⟩⟩
              case round =>
               as_aux_lemma =>
               clear H'
               try clear c1
               try clear p1
               try clear q1
               try clear hx1
               try clear c2
               try clear p2
               try clear q2
               try clear hx2
               try clear c3
               try clear c4
               try clear c5
               try clear q5
               try clear c6
               try clear c6b0
               try clear c6b1
               try clear p6
               try clear q6
               try clear c7
               try clear c8
               try clear c9
               try clear c10
               try clear c11
               try clear c12
               try clear c13
               try clear p13
               try clear q13
               try clear hx13
               try clear hf13
               try clear c14
               try clear c14b0
               try clear c14b1
               try clear c15
               try clear c15b0
               try clear c15b1
               try clear q15
               try clear c16
               try clear c16b0
               try clear c16b1
               try clear c17
               try clear c17b0
               try clear c17b1
               try clear c18
               try clear p22
               try clear q22
               try clear hx22
               try clear p23
               try clear q23
               try clear hx23
               try clear p24
               try clear q24
               try clear hx24
               try clear c25
               try clear c25b0
               try clear c26
               try clear c26b0
               try clear c28
               try clear c31
               try clear c32
               try clear c34
               try clear c34b0
               try clear c35
               try clear c36
               try clear c38
               try clear c38b0
               try clear c39
               try clear c40
               try clear c42
               try clear c44
               try clear c44b0
               try clear c45
               try clear c46
               try clear c48
               try clear c50
               try clear c50b0
               try clear c51
               try clear c52
               try clear c54
               try clear c56
               try clear c56b0
               try clear c57
               try clear c57b0
               try clear q58
               try clear c59
               try clear c60
               try clear c61
               try clear c63
               try clear p64
               try clear c66
               try clear c66b0
               try clear c67
               try clear c67b0
               try clear q68
               try clear c69
               try clear c70
               try clear c71
               try clear c73
               try clear c77
               try clear c77b0
               try clear c79
               try clear c79b0
               try clear c80
               try clear c80b0
               try clear c81
               try clear c82
               try clear c84
               try clear c89
               try clear c90
               try clear c92
               try clear c96
               try clear c99
               try clear c100
               try clear c102
               try clear c108
               try clear c108b0
               try clear c108b1
               try clear c109
               try clear c109b0
               try clear c110
               try clear c110b0
               try clear c111
               try clear c111b0
               try clear c112
               try clear c113
               try clear c115
               try clear c117
               try clear c117b0
               try clear c118
               try clear c119
               try clear c121
               try clear c123
               try clear c123b0
               try clear c124
               try clear c124b0
               try clear c125
               try clear c126
               try clear c128
               try clear c130
               try clear c131
               try clear c131b0
               try clear c132
               try clear c132b0
               try clear p133
               try clear q133
               try clear hx133
               try clear hf133
               try clear c134
               try clear c134b0
               try clear c135
               try clear c135b0
               try clear p136
               try clear q136
               try clear hx136
               try clear hf136
               try clear c137
               try clear c138
               try clear c145
               try clear c147
               try clear c147b0
               try clear c148
               try clear c148b0
               try clear c149
               try clear c149b0
               try clear q150
               try clear c151
               try clear c152
               try clear c155
               try clear c155b0
               try clear c156
               try clear c156b0
               try clear c156b1
               try clear c157
               try clear c161
               try clear c165
               try clear hcz101_0
               try clear hcz101_1
               try clear hcz101_2
               try clear hcz103_0
               try clear hcz103_1
               try clear hcz114_0
               try clear hcz114_1
               try clear hcz114_2
               try clear hcz116_0
               try clear hcz116_1
               try clear hcz11_0
               try clear hcz11_1
               try clear hcz11_2
               try clear hcz120_0
               try clear hcz120_1
               try clear hcz120_2
               try clear hcz122_0
               try clear hcz122_1
               try clear hcz127_0
               try clear hcz127_1
               try clear hcz127_2
               try clear hcz129_0
               try clear hcz129_1
               try clear hcz12_0
               try clear hcz12_1
               try clear hcz12_2
               try clear hcz139_0
               try clear hcz139_1
               try clear hcz142_0
               try clear hcz142_1
               try clear hcz146_0
               try clear hcz146_1
               try clear hcz146_2
               try clear hcz153_0
               try clear hcz153_1
               try clear hcz153_2
               try clear hcz158_0
               try clear hcz158_1
               try clear hcz158_2
               try clear hcz160_0
               try clear hcz160_1
               try clear hcz160_2
               try clear hcz162_0
               try clear hcz162_1
               try clear hcz162_2
               try clear hcz164_0
               try clear hcz164_1
               try clear hcz164_2
               try clear hcz166_0
               try clear hcz166_1
               try clear hcz166_2
               try clear hcz19_0
               try clear hcz19_1
               try clear hcz19_2
               try clear hcz22_0
               try clear hcz22_1
               try clear hcz22_2
               try clear hcz29_0
               try clear hcz29_1
               try clear hcz29_2
               try clear hcz33_0
               try clear hcz33_1
               try clear hcz37_0
               try clear hcz37_1
               try clear hcz41_0
               try clear hcz41_1
               try clear hcz43_0
               try clear hcz43_1
               try clear hcz43_2
               try clear hcz47_0
               try clear hcz47_1
               try clear hcz49_0
               try clear hcz49_1
               try clear hcz49_2
               try clear hcz53_0
               try clear hcz53_1
               try clear hcz55_0
               try clear hcz55_1
               try clear hcz55_2
               try clear hcz62_0
               try clear hcz62_1
               try clear hcz64_0
               try clear hcz64_1
               try clear hcz64_2
               try clear hcz72_0
               try clear hcz72_1
               try clear hcz74_0
               try clear hcz74_1
               try clear hcz74_2
               try clear hcz83_0
               try clear hcz83_1
               try clear hcz85_0
               try clear hcz85_1
               try clear hcz85_2
               try clear hcz88_0
               try clear hcz88_1
               try clear hcz88_2
               try clear hcz8_0
               try clear hcz8_1
               try clear hcz8_2
               try clear hcz91_0
               try clear hcz91_1
               try clear hcz93_0
               try clear hcz93_1
               try clear hcz93_2
               try clear hcz9_0
               try clear hcz9_1
               try clear hcz9_2
               try clear hfz101_0
               try clear hfz101_1
               try clear hfz101_2
               try clear hfz103_0
               try clear hfz103_1
               try clear hfz114_0
               try clear hfz114_1
               try clear hfz114_2
               try clear hfz116_0
               try clear hfz116_1
               try clear hfz11_0
               try clear hfz11_1
               try clear hfz11_2
               try clear hfz120_0
               try clear hfz120_1
               try clear hfz120_2
               try clear hfz122_0
               try clear hfz122_1
               try clear hfz127_0
               try clear hfz127_1
               try clear hfz127_2
               try clear hfz129_0
               try clear hfz129_1
               try clear hfz12_0
               try clear hfz12_1
               try clear hfz12_2
               try clear hfz139_0
               try clear hfz139_1
               try clear hfz142_0
               try clear hfz142_1
               try clear hfz146_0
               try clear hfz146_1
               try clear hfz146_2
               try clear hfz153_0
               try clear hfz153_1
               try clear hfz153_2
               try clear hfz158_0
               try clear hfz158_1
               try clear hfz158_2
               try clear hfz160_0
               try clear hfz160_1
               try clear hfz160_2
               try clear hfz162_0
               try clear hfz162_1
               try clear hfz162_2
               try clear hfz164_0
               try clear hfz164_1
               try clear hfz164_2
               try clear hfz166_0
               try clear hfz166_1
               try clear hfz166_2
               try clear hfz19_0
               try clear hfz19_1
               try clear hfz19_2
               try clear hfz22_0
               try clear hfz22_1
               try clear hfz22_2
               try clear hfz29_0
               try clear hfz29_1
               try clear hfz29_2
               try clear hfz33_0
               try clear hfz33_1
               try clear hfz37_0
               try clear hfz37_1
               try clear hfz41_0
               try clear hfz41_1
               try clear hfz43_0
               try clear hfz43_1
               try clear hfz43_2
               try clear hfz47_0
               try clear hfz47_1
               try clear hfz49_0
               try clear hfz49_1
               try clear hfz49_2
               try clear hfz53_0
               try clear hfz53_1
               try clear hfz55_0
               try clear hfz55_1
               try clear hfz55_2
               try clear hfz62_0
               try clear hfz62_1
               try clear hfz64_0
               try clear hfz64_1
               try clear hfz64_2
               try clear hfz72_0
               try clear hfz72_1
               try clear hfz74_0
               try clear hfz74_1
               try clear hfz74_2
               try clear hfz83_0
               try clear hfz83_1
               try clear hfz85_0
               try clear hfz85_1
               try clear hfz85_2
               try clear hfz88_0
               try clear hfz88_1
               try clear hfz88_2
               try clear hfz8_0
               try clear hfz8_1
               try clear hfz8_2
               try clear hfz91_0
               try clear hfz91_1
               try clear hfz93_0
               try clear hfz93_1
               try clear hfz93_2
               try clear hfz9_0
               try clear hfz9_1
               try clear hfz9_2
               try clear hx133_0
               try clear hx136_0
               try clear hx224_0
               try clear hx224_1
               try clear hx226_0
               try clear hx227_0
               try clear hx228_0
               try clear hx228_1
               try clear hx233_0
               try clear hx234_0
               try clear hx235_0
               try clear hx236_0
               try clear hx239_0
               try clear hx240_0
               try clear p1
               try clear p13
               try clear p133
               try clear p136
               try clear p2
               try clear p22
               try clear p224
               try clear p226
               try clear p227
               try clear p228
               try clear p23
               try clear p233
               try clear p234
               try clear p235
               try clear p236
               try clear p239
               try clear p240
               try clear p6
               try clear p64
               try clear q1
               try clear q13
               try clear q133
               try clear q136
               try clear q2
               try clear q22
               try clear q224
               try clear q226
               try clear q227
               try clear q228
               try clear q23
               try clear q233
               try clear q234
               try clear q235
               try clear q236
               try clear q239
               try clear q240
               try clear q5
               try clear q58
               try clear q6
               try clear q68
               obtain ⟨x11_4, rfl, HA, HK4, HO_6, BK216, BK217, HB⟩ := hrel
               cases gk with
               | zero => exact absurd HA.out (by simp [cabstandlaw18_tight.l2])
               | succ k4 =>
                have H := HA.out
                clear HA
                simp only [cabstandlaw18_tight.l2] at H
                by_cases c167 : x11_4 < a0_1
                ·rw [if_pos c167] at H
                 have c167b0 : decide (x11_4 < a0_1) = true := decide_eq_true c167
                 clear c167
                 by_cases c168 : 0 ≤ x11_4
                 ·rw [if_pos c168] at H
                  have c168b0 : decide (0 ≤ x11_4) = true := decide_eq_true c168
                  clear c168
                  by_cases c169 : x11_4 < (x6_2.length : Int)
                  ·rw [if_pos c169] at H
                   have c169b0 : decide (x11_4 < (x6_2.length : Int)) = true := decide_eq_true c169
                   clear c169
                   obtain ⟨bq170, hbq170⟩ : ∃ b_ : Bool, b_ = (rdOf false x6_2 x11_4) := ⟨_, rfl⟩
                   replace H : (if bq170 = true then (cabstandlaw18_tight.l2 k4 x6_2 (wrap64 (x11_4 + 1)) a0_0 a0_1 l0_2 l1_0 l1_1 l1_2) else (if x11_4 < (l1_2.length : Int) then (if (rd l1_2 x11_4) = 0 then (cabstandlaw18_tight.l2 k4 x6_2 (wrap64 (x11_4 + 1)) a0_0 a0_1 l0_2 l1_0 l1_1 l1_2) else (some false)) else (none))) = some r := by rw [← hbq170] at H; exact H
                   have Nbq170 := Aside0.mk hbq170
                   clear hbq170
                   by_cases c171 : bq170 = true
                   ·subst c171
                    have H1 : (cabstandlaw18_tight.l2 k4 x6_2 (wrap64 (x11_4 + 1)) a0_0 a0_1 l0_2 l1_0 l1_1 l1_2) = some r := by rw [if_pos rfl] at H; exact H
                    clear H
                    have H := H1
                    clear H1
                    have H' := Aside0.mk H
                    clear H
                    have hnb172 := NB216_217.out
                    have hnc172 := NB217_216.out
                    have hcz173_0 : wr.cell? ⟨gb216, 0, none⟩ = some (.int .i64 a0_0) := (blk_cell BK216.out 0).trans rfl
                    have hcz173_1 : wr.cell? ⟨gb216, 1, none⟩ = some (.int .i64 a0_1) := (blk_cell BK216.out 1).trans rfl
                    have hcz173_2 : wr.cell? ⟨gb216, 2, none⟩ = some (.slice A0_2 l0_2.length c0_2) := (blk_cell BK216.out 2).trans rfl
                    have hfz173_0 := blk_frozen BK216.out 0
                    have hfz173_1 := blk_frozen BK216.out 1
                    have hfz173_2 := blk_frozen BK216.out 2
                    obtain ⟨Ao174, co174, eo174⟩ := Kd.R_slice HO_6.out
                    subst eo174
                    have p241 : 0 ≤ (x11_4 : Int) := of_decide_eq_true (by first | (with_reducible assumption) | assumption)
                    have q241 : x11_4 < (x6_2.length : Int) := of_decide_eq_true (by first | (with_reducible assumption) | assumption)
                    obtain ⟨ad241, e241, hx241_0⟩ := Kd.at_bool (Kd.R_reads' HO_6.out).2.2 x11_4 p241 q241
                    (try rw [← Nbq170.out] at hx241_0)
                    cases e241
                    replace p241 := eq_true p241
                    replace q241 := eq_true q241
                    go_wp2
                    repeat (go_quiet (fail); try go_wp2)
                    go_roundg k4
                    case measure => have := HJ2.out; have := HK2.out; have := HK3.out; have := HK4.out; omega
                    case rel => exact ⟨(wrap64 (x11_4 + 1)), (by first | rfl | (simp; done) | (simp [*]; done)), H', ⟨by have := HJ2.out; have := HK2.out; have := HK3.out; have := HK4.out; omega⟩, ⟨by (with_reducible repeat (first | apply Kd.R_alloc | apply Kd.R_drewN | apply Kd.R_drew)); exact HO_6.out⟩, ⟨by (with_reducible repeat (first | refine blk_drewN ?_ _ | refine blk_drew ?_ | refine blk_alloc ?_ _)); exact BK216.out⟩, ⟨by (with_reducible repeat (first | refine blk_drewN ?_ _ | refine blk_drew ?_ | refine blk_alloc ?_ _)); exact BK217.out⟩, ⟨by repeat (first | (with_reducible first | exact HB.out | apply below_alloc | apply pw_below_drewN | apply below_drew1 | refine below_set ?_ GE216.out | refine below_set ?_ GE217.out) | exact HB.out)⟩⟩
                   ·replace c171 := Bool.eq_false_iff.mpr c171
                    subst c171
                    have H1 : (if x11_4 < (l1_2.length : Int) then (if (rd l1_2 x11_4) = 0 then (cabstandlaw18_tight.l2 k4 x6_2 (wrap64 (x11_4 + 1)) a0_0 a0_1 l0_2 l1_0 l1_1 l1_2) else (some false)) else (none)) = some r := by rw [if_neg (show ¬ (false = true) by decide)] at H; exact H
                    clear H
                    have H := H1
                    clear H1
                    by_cases c175 : x11_4 < (l1_2.length : Int)
                    ·rw [if_pos c175] at H
                     have c175b0 : decide (x11_4 < (l1_2.length : Int)) = true := decide_eq_true c175
                     clear c175
                     by_cases c176 : (rd l1_2 x11_4) = 0
                     ·rw [if_pos c176] at H
                      have c176b0 : ((rd l1_2 x11_4) == 0) = true := beq_iff_eq.mpr c176
                      have c176b1 : ((rd l1_2 x11_4) != 0) = false := bne_eq_false_iff_eq.mpr c176
                      clear c176
                      have H' := Aside0.mk H
                      clear H
                      have hnb177 := NB216_217.out
                      have hnc177 := NB217_216.out
                      have hcz178_0 : wr.cell? ⟨gb216, 0, none⟩ = some (.int .i64 a0_0) := (blk_cell BK216.out 0).trans rfl
                      have hcz178_1 : wr.cell? ⟨gb216, 1, none⟩ = some (.int .i64 a0_1) := (blk_cell BK216.out 1).trans rfl
                      have hcz178_2 : wr.cell? ⟨gb216, 2, none⟩ = some (.slice A0_2 l0_2.length c0_2) := (blk_cell BK216.out 2).trans rfl
                      have hfz178_0 := blk_frozen BK216.out 0
                      have hfz178_1 := blk_frozen BK216.out 1
                      have hfz178_2 := blk_frozen BK216.out 2
                      obtain ⟨Ao179, co179, eo179⟩ := Kd.R_slice HO_6.out
                      subst eo179
                      have p241 : 0 ≤ (x11_4 : Int) := of_decide_eq_true (by first | (with_reducible assumption) | assumption)
                      have q241 : x11_4 < (x6_2.length : Int) := of_decide_eq_true (by first | (with_reducible assumption) | assumption)
                      obtain ⟨ad241, e241, hx241_0⟩ := Kd.at_bool (Kd.R_reads' HO_6.out).2.2 x11_4 p241 q241
                      (try rw [← Nbq170.out] at hx241_0)
                      cases e241
                      replace p241 := eq_true p241
                      replace q241 := eq_true q241
                      have hcz180_0 : wr.cell? ⟨gb217, 0, none⟩ = some (.slice A1_0 l1_0.length c1_0) := (blk_cell BK217.out 0).trans rfl
                      have hcz180_1 : wr.cell? ⟨gb217, 1, none⟩ = some (.slice A1_1 l1_1.length c1_1) := (blk_cell BK217.out 1).trans rfl
                      have hcz180_2 : wr.cell? ⟨gb217, 2, none⟩ = some (.slice A1_2 l1_2.length c1_2) := (blk_cell BK217.out 2).trans rfl
                      have hfz180_0 := blk_frozen BK217.out 0
                      have hfz180_1 := blk_frozen BK217.out 1
                      have hfz180_2 := blk_frozen BK217.out 2
                      have p242 : 0 ≤ (x11_4 : Int) := of_decide_eq_true (by first | (with_reducible assumption) | assumption)
                      have q242 : x11_4 < (l1_2.length : Int) := of_decide_eq_true (by first | (with_reducible assumption) | assumption)
                      obtain ⟨ad242, e242, hx242_0⟩ := Kd.at_int HR1_2.out x11_4 p242 q242
                      cases e242
                      replace hx242_0 := (HB.out.cell (World.block_lt_of_cell? w _ hx242_0)).trans hx242_0
                      replace p242 := eq_true p242
                      replace q242 := eq_true q242
                      go_wp2
                      repeat (go_quiet (fail); try go_wp2)
                      go_roundg k4
                      case measure => have := HJ2.out; have := HK2.out; have := HK3.out; have := HK4.out; omega
                      case rel => exact ⟨(wrap64 (x11_4 + 1)), (by first | rfl | (simp; done) | (simp [*]; done)), H', ⟨by have := HJ2.out; have := HK2.out; have := HK3.out; have := HK4.out; omega⟩, ⟨by (with_reducible repeat (first | apply Kd.R_alloc | apply Kd.R_drewN | apply Kd.R_drew)); exact HO_6.out⟩, ⟨by (with_reducible repeat (first | refine blk_drewN ?_ _ | refine blk_drew ?_ | refine blk_alloc ?_ _)); exact BK216.out⟩, ⟨by (with_reducible repeat (first | refine blk_drewN ?_ _ | refine blk_drew ?_ | refine blk_alloc ?_ _)); exact BK217.out⟩, ⟨by repeat (first | (with_reducible first | exact HB.out | apply below_alloc | apply pw_below_drewN | apply below_drew1 | refine below_set ?_ GE216.out | refine below_set ?_ GE217.out) | exact HB.out)⟩⟩
                     ·rw [if_neg c176] at H
                      have c176b0 : ((rd l1_2 x11_4) == 0) = false := beq_eq_false_iff_ne.mpr c176
                      have c176b1 : ((rd l1_2 x11_4) != 0) = true := bne_iff_ne.mpr c176
                      obtain rfl := Option.some.inj H
                      have hnb181 := NB216_217.out
                      have hnc181 := NB217_216.out
                      have hcz182_0 : wr.cell? ⟨gb216, 0, none⟩ = some (.int .i64 a0_0) := (blk_cell BK216.out 0).trans rfl
                      have hcz182_1 : wr.cell? ⟨gb216, 1, none⟩ = some (.int .i64 a0_1) := (blk_cell BK216.out 1).trans rfl
                      have hcz182_2 : wr.cell? ⟨gb216, 2, none⟩ = some (.slice A0_2 l0_2.length c0_2) := (blk_cell BK216.out 2).trans rfl
                      have hfz182_0 := blk_frozen BK216.out 0
                      have hfz182_1 := blk_frozen BK216.out 1
                      have hfz182_2 := blk_frozen BK216.out 2
                      obtain ⟨Ao183, co183, eo183⟩ := Kd.R_slice HO_6.out
                      subst eo183
                      have p241 : 0 ≤ (x11_4 : Int) := of_decide_eq_true (by first | (with_reducible assumption) | assumption)
                      have q241 : x11_4 < (x6_2.length : Int) := of_decide_eq_true (by first | (with_reducible assumption) | assumption)
                      obtain ⟨ad241, e241, hx241_0⟩ := Kd.at_bool (Kd.R_reads' HO_6.out).2.2 x11_4 p241 q241
                      (try rw [← Nbq170.out] at hx241_0)
                      cases e241
                      replace p241 := eq_true p241
                      replace q241 := eq_true q241
                      have hcz184_0 : wr.cell? ⟨gb217, 0, none⟩ = some (.slice A1_0 l1_0.length c1_0) := (blk_cell BK217.out 0).trans rfl
                      have hcz184_1 : wr.cell? ⟨gb217, 1, none⟩ = some (.slice A1_1 l1_1.length c1_1) := (blk_cell BK217.out 1).trans rfl
                      have hcz184_2 : wr.cell? ⟨gb217, 2, none⟩ = some (.slice A1_2 l1_2.length c1_2) := (blk_cell BK217.out 2).trans rfl
                      have hfz184_0 := blk_frozen BK217.out 0
                      have hfz184_1 := blk_frozen BK217.out 1
                      have hfz184_2 := blk_frozen BK217.out 2
                      have p242 : 0 ≤ (x11_4 : Int) := of_decide_eq_true (by first | (with_reducible assumption) | assumption)
                      have q242 : x11_4 < (l1_2.length : Int) := of_decide_eq_true (by first | (with_reducible assumption) | assumption)
                      obtain ⟨ad242, e242, hx242_0⟩ := Kd.at_int HR1_2.out x11_4 p242 q242
                      cases e242
                      replace hx242_0 := (HB.out.cell (World.block_lt_of_cell? w _ hx242_0)).trans hx242_0
                      replace p242 := eq_true p242
                      replace q242 := eq_true q242
                      go_wp2
                      repeat (go_quiet (fail); try go_wp2)
                      go_ret
                      exact ⟨by first | rfl | (simp [errW_none, errW_some] <;> rfl) | (simp [*, errW_none, errW_some] <;> rfl), by repeat (first | (with_reducible first | exact HB.out | apply below_alloc | apply pw_below_drewN | apply below_drew1 | refine below_set ?_ GE216.out | refine below_set ?_ GE217.out) | exact HB.out)⟩
                    ·rw [if_neg c175] at H
                     exact absurd H (by simp)
                  ·rw [if_neg c169] at H
                   exact absurd H (by simp)
                 ·rw [if_neg c168] at H
                  exact absurd H (by simp)
                ·rw [if_neg c167] at H
                 have c167b0 : decide (x11_4 < a0_1) = false := decide_eq_false c167
                 clear c167
                 have H' := Aside0.mk H
                 clear H
                 have hnb185 := NB216_217.out
                 have hnc185 := NB217_216.out
                 have hcz186_0 : wr.cell? ⟨gb216, 0, none⟩ = some (.int .i64 a0_0) := (blk_cell BK216.out 0).trans rfl
                 have hcz186_1 : wr.cell? ⟨gb216, 1, none⟩ = some (.int .i64 a0_1) := (blk_cell BK216.out 1).trans rfl
                 have hcz186_2 : wr.cell? ⟨gb216, 2, none⟩ = some (.slice A0_2 l0_2.length c0_2) := (blk_cell BK216.out 2).trans rfl
                 have hfz186_0 := blk_frozen BK216.out 0
                 have hfz186_1 := blk_frozen BK216.out 1
                 have hfz186_2 := blk_frozen BK216.out 2
                 go_wp2
                 repeat (go_quiet (fail); try go_wp2)
                 go_loopg [12] k4 (fun kq v12 w' => ∃ (x12_5 : Int), v12 = .int .i64 x12_5 ∧ Aside0 (cabstandlaw18_tight.l3 kq x12_5 a0_0 a0_1 l0_2 l1_0 l1_1 l1_2 = some r) ∧ Aside0 (kq ≤ k4) ∧ Aside0 (w'.heap[gb216]? = some (.cells #[.int .i64 a0_0, .int .i64 a0_1, (.slice A0_2 l0_2.length c0_2)] 24 (0, 0))) ∧ Aside0 (w'.heap[gb217]? = some (.cells #[(.slice A1_0 l1_0.length c1_0), (.slice A1_1 l1_1.length c1_1), (.slice A1_2 l1_2.length c1_2)] 28 (0, 0))) ∧ Aside0 (Below w.heap.size w w'))
                 case atStart => exact ⟨(0), (by first | rfl | (simp; done) | (simp [*]; done)), H', ⟨Nat.le_refl _⟩, ⟨by (with_reducible repeat (first | refine blk_drewN ?_ _ | refine blk_drew ?_ | refine blk_alloc ?_ _)); exact BK216.out⟩, ⟨by (with_reducible repeat (first | refine blk_drewN ?_ _ | refine blk_drew ?_ | refine blk_alloc ?_ _)); exact BK217.out⟩, ⟨by repeat (first | (with_reducible first | exact HB.out | apply below_alloc | apply pw_below_drewN | apply below_drew1 | refine below_set ?_ GE216.out | refine below_set ?_ GE217.out) | exact HB.out)⟩⟩
                 case round =>
                  as_aux_lemma =>
                  clear H'
                  try clear c1
                  try clear p1
                  try clear q1
                  try clear hx1
                  try clear c2
                  try clear p2
                  try clear q2
                  try clear hx2
                  try clear c3
                  try clear c4
                  try clear c5
                  try clear q5
                  try clear c6
                  try clear c6b0
                  try clear c6b1
                  try clear p6
                  try clear q6
                  try clear c7
                  try clear c8
                  try clear c9
                  try clear c10
                  try clear c11
                  try clear c12
                  try clear c13
                  try clear p13
                  try clear q13
                  try clear hx13
                  try clear hf13
                  try clear c14
                  try clear c14b0
                  try clear c14b1
                  try clear c15
                  try clear c15b0
                  try clear c15b1
                  try clear q15
                  try clear c16
                  try clear c16b0
                  try clear c16b1
                  try clear c17
                  try clear c17b0
                  try clear c17b1
                  try clear q17
                  try clear c18
                  try clear p22
                  try clear q22
                  try clear hx22
                  try clear p23
                  try clear q23
                  try clear hx23
                  try clear p24
                  try clear q24
                  try clear hx24
                  try clear c25
                  try clear c25b0
                  try clear c26
                  try clear c26b0
                  try clear c28
                  try clear c31
                  try clear c32
                  try clear c34
                  try clear c34b0
                  try clear c35
                  try clear c36
                  try clear c38
                  try clear c38b0
                  try clear c39
                  try clear c40
                  try clear c42
                  try clear c44
                  try clear c44b0
                  try clear c45
                  try clear c46
                  try clear c48
                  try clear c50
                  try clear c50b0
                  try clear c51
                  try clear c52
                  try clear c54
                  try clear c56
                  try clear c56b0
                  try clear c57
                  try clear c57b0
                  try clear q58
                  try clear c59
                  try clear c60
                  try clear c61
                  try clear c63
                  try clear p64
                  try clear c66
                  try clear c66b0
                  try clear c67
                  try clear c67b0
                  try clear q68
                  try clear c69
                  try clear c70
                  try clear c71
                  try clear c73
                  try clear c77
                  try clear c77b0
                  try clear c79
                  try clear c79b0
                  try clear c80
                  try clear c80b0
                  try clear c81
                  try clear c82
                  try clear c84
                  try clear c89
                  try clear c90
                  try clear c92
                  try clear c96
                  try clear c99
                  try clear c100
                  try clear c102
                  try clear c108
                  try clear c108b0
                  try clear c108b1
                  try clear c109
                  try clear c109b0
                  try clear c110
                  try clear c110b0
                  try clear c111
                  try clear c111b0
                  try clear c112
                  try clear c113
                  try clear c115
                  try clear c117
                  try clear c117b0
                  try clear c118
                  try clear c119
                  try clear c121
                  try clear c123
                  try clear c123b0
                  try clear c124
                  try clear c124b0
                  try clear c125
                  try clear c126
                  try clear c128
                  try clear c130
                  try clear c131
                  try clear c131b0
                  try clear c132
                  try clear c132b0
                  try clear p133
                  try clear q133
                  try clear hx133
                  try clear hf133
                  try clear c134
                  try clear c134b0
                  try clear c135
                  try clear c135b0
                  try clear p136
                  try clear q136
                  try clear hx136
                  try clear hf136
                  try clear c137
                  try clear c138
                  try clear c145
                  try clear c147
                  try clear c147b0
                  try clear c148
                  try clear c148b0
                  try clear c149
                  try clear c149b0
                  try clear q150
                  try clear c151
                  try clear c152
                  try clear c155
                  try clear c155b0
                  try clear c156
                  try clear c156b0
                  try clear c156b1
                  try clear c157
                  try clear c161
                  try clear c165
                  try clear c167
                  try clear c167b0
                  try clear c168
                  try clear c168b0
                  try clear c169
                  try clear c169b0
                  try clear q170
                  try clear c171
                  try clear c172
                  try clear c175
                  try clear c175b0
                  try clear c176
                  try clear c176b0
                  try clear c176b1
                  try clear c177
                  try clear c181
                  try clear c185
                  try clear hcz101_0
                  try clear hcz101_1
                  try clear hcz101_2
                  try clear hcz103_0
                  try clear hcz103_1
                  try clear hcz114_0
                  try clear hcz114_1
                  try clear hcz114_2
                  try clear hcz116_0
                  try clear hcz116_1
                  try clear hcz11_0
                  try clear hcz11_1
                  try clear hcz11_2
                  try clear hcz120_0
                  try clear hcz120_1
                  try clear hcz120_2
                  try clear hcz122_0
                  try clear hcz122_1
                  try clear hcz127_0
                  try clear hcz127_1
                  try clear hcz127_2
                  try clear hcz129_0
                  try clear hcz129_1
                  try clear hcz12_0
                  try clear hcz12_1
                  try clear hcz12_2
                  try clear hcz139_0
                  try clear hcz139_1
                  try clear hcz142_0
                  try clear hcz142_1
                  try clear hcz146_0
                  try clear hcz146_1
                  try clear hcz146_2
                  try clear hcz153_0
                  try clear hcz153_1
                  try clear hcz153_2
                  try clear hcz158_0
                  try clear hcz158_1
                  try clear hcz158_2
                  try clear hcz160_0
                  try clear hcz160_1
                  try clear hcz160_2
                  try clear hcz162_0
                  try clear hcz162_1
                  try clear hcz162_2
                  try clear hcz164_0
                  try clear hcz164_1
                  try clear hcz164_2
                  try clear hcz166_0
                  try clear hcz166_1
                  try clear hcz166_2
                  try clear hcz173_0
                  try clear hcz173_1
                  try clear hcz173_2
                  try clear hcz178_0
                  try clear hcz178_1
                  try clear hcz178_2
                  try clear hcz180_0
                  try clear hcz180_1
                  try clear hcz180_2
                  try clear hcz182_0
                  try clear hcz182_1
                  try clear hcz182_2
                  try clear hcz184_0
                  try clear hcz184_1
                  try clear hcz184_2
                  try clear hcz186_0
                  try clear hcz186_1
                  try clear hcz186_2
                  try clear hcz19_0
                  try clear hcz19_1
                  try clear hcz19_2
                  try clear hcz22_0
                  try clear hcz22_1
                  try clear hcz22_2
                  try clear hcz29_0
                  try clear hcz29_1
                  try clear hcz29_2
                  try clear hcz33_0
                  try clear hcz33_1
                  try clear hcz37_0
                  try clear hcz37_1
                  try clear hcz41_0
                  try clear hcz41_1
                  try clear hcz43_0
                  try clear hcz43_1
                  try clear hcz43_2
                  try clear hcz47_0
                  try clear hcz47_1
                  try clear hcz49_0
                  try clear hcz49_1
                  try clear hcz49_2
                  try clear hcz53_0
                  try clear hcz53_1
                  try clear hcz55_0
                  try clear hcz55_1
                  try clear hcz55_2
                  try clear hcz62_0
                  try clear hcz62_1
                  try clear hcz64_0
                  try clear hcz64_1
                  try clear hcz64_2
                  try clear hcz72_0
                  try clear hcz72_1
                  try clear hcz74_0
                  try clear hcz74_1
                  try clear hcz74_2
                  try clear hcz83_0
                  try clear hcz83_1
                  try clear hcz85_0
                  try clear hcz85_1
                  try clear hcz85_2
                  try clear hcz88_0
                  try clear hcz88_1
                  try clear hcz88_2
                  try clear hcz8_0
                  try clear hcz8_1
                  try clear hcz8_2
                  try clear hcz91_0
                  try clear hcz91_1
                  try clear hcz93_0
                  try clear hcz93_1
                  try clear hcz93_2
                  try clear hcz9_0
                  try clear hcz9_1
                  try clear hcz9_2
                  try clear hfz101_0
                  try clear hfz101_1
                  try clear hfz101_2
                  try clear hfz103_0
                  try clear hfz103_1
                  try clear hfz114_0
                  try clear hfz114_1
                  try clear hfz114_2
                  try clear hfz116_0
                  try clear hfz116_1
                  try clear hfz11_0
                  try clear hfz11_1
                  try clear hfz11_2
                  try clear hfz120_0
                  try clear hfz120_1
                  try clear hfz120_2
                  try clear hfz122_0
                  try clear hfz122_1
                  try clear hfz127_0
                  try clear hfz127_1
                  try clear hfz127_2
                  try clear hfz129_0
                  try clear hfz129_1
                  try clear hfz12_0
                  try clear hfz12_1
                  try clear hfz12_2
                  try clear hfz139_0
                  try clear hfz139_1
                  try clear hfz142_0
                  try clear hfz142_1
                  try clear hfz146_0
                  try clear hfz146_1
                  try clear hfz146_2
                  try clear hfz153_0
                  try clear hfz153_1
                  try clear hfz153_2
                  try clear hfz158_0
                  try clear hfz158_1
                  try clear hfz158_2
                  try clear hfz160_0
                  try clear hfz160_1
                  try clear hfz160_2
                  try clear hfz162_0
                  try clear hfz162_1
                  try clear hfz162_2
                  try clear hfz164_0
                  try clear hfz164_1
                  try clear hfz164_2
                  try clear hfz166_0
                  try clear hfz166_1
                  try clear hfz166_2
                  try clear hfz173_0
                  try clear hfz173_1
                  try clear hfz173_2
                  try clear hfz178_0
                  try clear hfz178_1
                  try clear hfz178_2
                  try clear hfz180_0
                  try clear hfz180_1
                  try clear hfz180_2
                  try clear hfz182_0
                  try clear hfz182_1
                  try clear hfz182_2
                  try clear hfz184_0
                  try clear hfz184_1
                  try clear hfz184_2
                  try clear hfz186_0
                  try clear hfz186_1
                  try clear hfz186_2
                  try clear hfz19_0
                  try clear hfz19_1
                  try clear hfz19_2
                  try clear hfz22_0
                  try clear hfz22_1
                  try clear hfz22_2
                  try clear hfz29_0
                  try clear hfz29_1
                  try clear hfz29_2
                  try clear hfz33_0
                  try clear hfz33_1
                  try clear hfz37_0
                  try clear hfz37_1
                  try clear hfz41_0
                  try clear hfz41_1
                  try clear hfz43_0
                  try clear hfz43_1
                  try clear hfz43_2
                  try clear hfz47_0
                  try clear hfz47_1
                  try clear hfz49_0
                  try clear hfz49_1
                  try clear hfz49_2
                  try clear hfz53_0
                  try clear hfz53_1
                  try clear hfz55_0
                  try clear hfz55_1
                  try clear hfz55_2
                  try clear hfz62_0
                  try clear hfz62_1
                  try clear hfz64_0
                  try clear hfz64_1
                  try clear hfz64_2
                  try clear hfz72_0
                  try clear hfz72_1
                  try clear hfz74_0
                  try clear hfz74_1
                  try clear hfz74_2
                  try clear hfz83_0
                  try clear hfz83_1
                  try clear hfz85_0
                  try clear hfz85_1
                  try clear hfz85_2
                  try clear hfz88_0
                  try clear hfz88_1
                  try clear hfz88_2
                  try clear hfz8_0
                  try clear hfz8_1
                  try clear hfz8_2
                  try clear hfz91_0
                  try clear hfz91_1
                  try clear hfz93_0
                  try clear hfz93_1
                  try clear hfz93_2
                  try clear hfz9_0
                  try clear hfz9_1
                  try clear hfz9_2
                  try clear hx133_0
                  try clear hx136_0
                  try clear hx224_0
                  try clear hx224_1
                  try clear hx226_0
                  try clear hx227_0
                  try clear hx228_0
                  try clear hx228_1
                  try clear hx233_0
                  try clear hx234_0
                  try clear hx235_0
                  try clear hx236_0
                  try clear hx239_0
                  try clear hx240_0
                  try clear hx241_0
                  try clear hx242_0
                  try clear p1
                  try clear p13
                  try clear p133
                  try clear p136
                  try clear p2
                  try clear p22
                  try clear p224
                  try clear p226
                  try clear p227
                  try clear p228
                  try clear p23
                  try clear p233
                  try clear p234
                  try clear p235
                  try clear p236
                  try clear p239
                  try clear p24
                  try clear p240
                  try clear p241
                  try clear p242
                  try clear p6
                  try clear p64
                  try clear q1
                  try clear q13
                  try clear q133
                  try clear q136
                  try clear q15
                  try clear q150
                  try clear q2
                  try clear q22
                  try clear q224
                  try clear q226
                  try clear q227
                  try clear q228
                  try clear q23
                  try clear q233
                  try clear q234
                  try clear q235
                  try clear q236
                  try clear q239
                  try clear q24
                  try clear q240
                  try clear q241
                  try clear q242
                  try clear q5
                  try clear q58
                  try clear q6
                  try clear q68
                  obtain ⟨x12_5, rfl, HA, HK5, BK216, BK217, HB⟩ := hrel
                  cases gk with
                  | zero => exact absurd HA.out (by simp [cabstandlaw18_tight.l3])
                  | succ k5 =>
                   have H := HA.out
                   clear HA
                   simp only [cabstandlaw18_tight.l3] at H
                   by_cases c187 : x12_5 < (l0_2.length : Int)
                   ·rw [if_pos c187] at H
                    have c187b0 : decide (x12_5 < (l0_2.length : Int)) = true := decide_eq_true c187
                    clear c187
                    by_cases c188 : 0 ≤ x12_5
                    ·rw [if_pos c188] at H
                     have c188b0 : decide (0 ≤ x12_5) = true := decide_eq_true c188
                     clear c188
                     by_cases c189 : 0 ≤ ((rd_T69 l0_2 x12_5).f0)
                     ·rw [if_pos c189] at H
                      have c189b0 : decide (0 ≤ ((rd_T69 l0_2 x12_5).f0)) = true := decide_eq_true c189
                      clear c189
                      by_cases c190 : ((rd_T69 l0_2 x12_5).f0) < (l1_1.length : Int)
                      ·rw [if_pos c190] at H
                       have c190b0 : decide (((rd_T69 l0_2 x12_5).f0) < (l1_1.length : Int)) = true := decide_eq_true c190
                       clear c190
                       by_cases c191 : 0 ≤ ((rd_T69 l0_2 x12_5).f1)
                       ·rw [if_pos c191] at H
                        have c191b0 : decide (0 ≤ ((rd_T69 l0_2 x12_5).f1)) = true := decide_eq_true c191
                        clear c191
                        by_cases c192 : ((rd_T69 l0_2 x12_5).f1) < (l1_2.length : Int)
                        ·rw [if_pos c192] at H
                         have c192b0 : decide (((rd_T69 l0_2 x12_5).f1) < (l1_2.length : Int)) = true := decide_eq_true c192
                         clear c192
                         by_cases c193 : (wrap64 ((rd l1_1 ((rd_T69 l0_2 x12_5).f0)) + (rd l1_2 ((rd_T69 l0_2 x12_5).f1)))) < ((rd_T69 l0_2 x12_5).f2)
                         ·rw [if_pos c193] at H
                          have c193b0 : decide ((wrap64 ((rd l1_1 ((rd_T69 l0_2 x12_5).f0)) + (rd l1_2 ((rd_T69 l0_2 x12_5).f1)))) < ((rd_T69 l0_2 x12_5).f2)) = true := decide_eq_true c193
                          clear c193
                          obtain rfl := Option.some.inj H
                          have hnb194 := NB216_217.out
                          have hnc194 := NB217_216.out
                          have hcz195_0 : wr.cell? ⟨gb216, 0, none⟩ = some (.int .i64 a0_0) := (blk_cell BK216.out 0).trans rfl
                          have hcz195_1 : wr.cell? ⟨gb216, 1, none⟩ = some (.int .i64 a0_1) := (blk_cell BK216.out 1).trans rfl
                          have hcz195_2 : wr.cell? ⟨gb216, 2, none⟩ = some (.slice A0_2 l0_2.length c0_2) := (blk_cell BK216.out 2).trans rfl
                          have hfz195_0 := blk_frozen BK216.out 0
                          have hfz195_1 := blk_frozen BK216.out 1
                          have hfz195_2 := blk_frozen BK216.out 2
                          have hcz196_0 : wr.cell? ⟨gb217, 0, none⟩ = some (.slice A1_0 l1_0.length c1_0) := (blk_cell BK217.out 0).trans rfl
                          have hcz196_1 : wr.cell? ⟨gb217, 1, none⟩ = some (.slice A1_1 l1_1.length c1_1) := (blk_cell BK217.out 1).trans rfl
                          have hcz196_2 : wr.cell? ⟨gb217, 2, none⟩ = some (.slice A1_2 l1_2.length c1_2) := (blk_cell BK217.out 2).trans rfl
                          have hfz196_0 := blk_frozen BK217.out 0
                          have hfz196_1 := blk_frozen BK217.out 1
                          have hfz196_2 := blk_frozen BK217.out 2
                          have p243 : 0 ≤ (x12_5 : Int) := of_decide_eq_true (by first | (with_reducible assumption) | assumption)
                          have q243 : x12_5 < (l0_2.length : Int) := of_decide_eq_true (by first | (with_reducible assumption) | assumption)
                          obtain ⟨ad243, e243, hx243_0, hx243_1, hx243_2⟩ := at_T69 HR0_2.out x12_5 p243 q243
                          cases e243
                          replace hx243_0 := (HB.out.cell (World.block_lt_of_cell? w _ hx243_0)).trans hx243_0
                          replace hx243_1 := (HB.out.cell (World.block_lt_of_cell? w _ hx243_1)).trans hx243_1
                          replace hx243_2 := (HB.out.cell (World.block_lt_of_cell? w _ hx243_2)).trans hx243_2
                          replace p243 := eq_true p243
                          replace q243 := eq_true q243
                          have p244 : 0 ≤ (((rd_T69 l0_2 x12_5).f0) : Int) := of_decide_eq_true (by first | (with_reducible assumption) | assumption)
                          have q244 : ((rd_T69 l0_2 x12_5).f0) < (l1_1.length : Int) := of_decide_eq_true (by first | (with_reducible assumption) | assumption)
                          obtain ⟨ad244, e244, hx244_0⟩ := Kd.at_int HR1_1.out ((rd_T69 l0_2 x12_5).f0) p244 q244
                          cases e244
                          replace hx244_0 := (HB.out.cell (World.block_lt_of_cell? w _ hx244_0)).trans hx244_0
                          replace p244 := eq_true p244
                          replace q244 := eq_true q244
                          have p245 : 0 ≤ (x12_5 : Int) := of_decide_eq_true (by first | (with_reducible assumption) | assumption)
                          have q245 : x12_5 < (l0_2.length : Int) := of_decide_eq_true (by first | (with_reducible assumption) | assumption)
                          obtain ⟨ad245, e245, hx245_0, hx245_1, hx245_2⟩ := at_T69 HR0_2.out x12_5 p245 q245
                          obtain rfl : ad243 = ad245 := (by injection e245)
                          replace hx245_0 := (HB.out.cell (World.block_lt_of_cell? w _ hx245_0)).trans hx245_0
                          replace hx245_1 := (HB.out.cell (World.block_lt_of_cell? w _ hx245_1)).trans hx245_1
                          replace hx245_2 := (HB.out.cell (World.block_lt_of_cell? w _ hx245_2)).trans hx245_2
                          replace p245 := eq_true p245
                          replace q245 := eq_true q245
                          have p246 : 0 ≤ (((rd_T69 l0_2 x12_5).f1) : Int) := of_decide_eq_true (by first | (with_reducible assumption) | assumption)
                          have q246 : ((rd_T69 l0_2 x12_5).f1) < (l1_2.length : Int) := of_decide_eq_true (by first | (with_reducible assumption) | assumption)
                          obtain ⟨ad246, e246, hx246_0⟩ := Kd.at_int HR1_2.out ((rd_T69 l0_2 x12_5).f1) p246 q246
                          cases e246
                          replace hx246_0 := (HB.out.cell (World.block_lt_of_cell? w _ hx246_0)).trans hx246_0
                          replace p246 := eq_true p246
                          replace q246 := eq_true q246
                          have p247 : 0 ≤ (x12_5 : Int) := of_decide_eq_true (by first | (with_reducible assumption) | assumption)
                          have q247 : x12_5 < (l0_2.length : Int) := of_decide_eq_true (by first | (with_reducible assumption) | assumption)
                          obtain ⟨ad247, e247, hx247_0, hx247_1, hx247_2⟩ := at_T69 HR0_2.out x12_5 p247 q247
                          obtain rfl : ad243 = ad247 := (by injection e247)
                          replace hx247_0 := (HB.out.cell (World.block_lt_of_cell? w _ hx247_0)).trans hx247_0
                          replace hx247_1 := (HB.out.cell (World.block_lt_of_cell? w _ hx247_1)).trans hx247_1
                          replace hx247_2 := (HB.out.cell (World.block_lt_of_cell? w _ hx247_2)).trans hx247_2
                          replace p247 := eq_true p247
                          replace q247 := eq_true q247
                          go_wp2
                          repeat (go_quiet (fail); try go_wp2)
                          go_ret
                          exact ⟨by first | rfl | (simp [errW_none, errW_some] <;> rfl) | (simp [*, errW_none, errW_some] <;> rfl), by repeat (first | (with_reducible first | exact HB.out | apply below_alloc | apply pw_below_drewN | apply below_drew1 | refine below_set ?_ GE216.out | refine below_set ?_ GE217.out) | exact HB.out)⟩
                         ·rw [if_neg c193] at H
                          have c193b0 : decide ((wrap64 ((rd l1_1 ((rd_T69 l0_2 x12_5).f0)) + (rd l1_2 ((rd_T69 l0_2 x12_5).f1)))) < ((rd_T69 l0_2 x12_5).f2)) = false := decide_eq_false c193
                          clear c193
                          have H' := Aside0.mk H
                          clear H
                          have hnb197 := NB216_217.out
                          have hnc197 := NB217_216.out
                          have hcz198_0 : wr.cell? ⟨gb216, 0, none⟩ = some (.int .i64 a0_0) := (blk_cell BK216.out 0).trans rfl
                          have hcz198_1 : wr.cell? ⟨gb216, 1, none⟩ = some (.int .i64 a0_1) := (blk_cell BK216.out 1).trans rfl
                          have hcz198_2 : wr.cell? ⟨gb216, 2, none⟩ = some (.slice A0_2 l0_2.length c0_2) := (blk_cell BK216.out 2).trans rfl
                          have hfz198_0 := blk_frozen BK216.out 0
                          have hfz198_1 := blk_frozen BK216.out 1
                          have hfz198_2 := blk_frozen BK216.out 2
                          have hcz199_0 : wr.cell? ⟨gb217, 0, none⟩ = some (.slice A1_0 l1_0.length c1_0) := (blk_cell BK217.out 0).trans rfl
                          have hcz199_1 : wr.cell? ⟨gb217, 1, none⟩ = some (.slice A1_1 l1_1.length c1_1) := (blk_cell BK217.out 1).trans rfl
                          have hcz199_2 : wr.cell? ⟨gb217, 2, none⟩ = some (.slice A1_2 l1_2.length c1_2) := (blk_cell BK217.out 2).trans rfl
                          have hfz199_0 := blk_frozen BK217.out 0
                          have hfz199_1 := blk_frozen BK217.out 1
                          have hfz199_2 := blk_frozen BK217.out 2
                          have p243 : 0 ≤ (x12_5 : Int) := of_decide_eq_true (by first | (with_reducible assumption) | assumption)
                          have q243 : x12_5 < (l0_2.length : Int) := of_decide_eq_true (by first | (with_reducible assumption) | assumption)
                          obtain ⟨ad243, e243, hx243_0, hx243_1, hx243_2⟩ := at_T69 HR0_2.out x12_5 p243 q243
                          cases e243
                          replace hx243_0 := (HB.out.cell (World.block_lt_of_cell? w _ hx243_0)).trans hx243_0
                          replace hx243_1 := (HB.out.cell (World.block_lt_of_cell? w _ hx243_1)).trans hx243_1
                          replace hx243_2 := (HB.out.cell (World.block_lt_of_cell? w _ hx243_2)).trans hx243_2
                          replace p243 := eq_true p243
                          replace q243 := eq_true q243
                          have p244 : 0 ≤ (((rd_T69 l0_2 x12_5).f0) : Int) := of_decide_eq_true (by first | (with_reducible assumption) | assumption)
                          have q244 : ((rd_T69 l0_2 x12_5).f0) < (l1_1.length : Int) := of_decide_eq_true (by first | (with_reducible assumption) | assumption)
                          obtain ⟨ad244, e244, hx244_0⟩ := Kd.at_int HR1_1.out ((rd_T69 l0_2 x12_5).f0) p244 q244
                          cases e244
                          replace hx244_0 := (HB.out.cell (World.block_lt_of_cell? w _ hx244_0)).trans hx244_0
                          replace p244 := eq_true p244
                          replace q244 := eq_true q244
                          have p245 : 0 ≤ (x12_5 : Int) := of_decide_eq_true (by first | (with_reducible assumption) | assumption)
                          have q245 : x12_5 < (l0_2.length : Int) := of_decide_eq_true (by first | (with_reducible assumption) | assumption)
                          obtain ⟨ad245, e245, hx245_0, hx245_1, hx245_2⟩ := at_T69 HR0_2.out x12_5 p245 q245
                          obtain rfl : ad243 = ad245 := (by injection e245)
                          replace hx245_0 := (HB.out.cell (World.block_lt_of_cell? w _ hx245_0)).trans hx245_0
                          replace hx245_1 := (HB.out.cell (World.block_lt_of_cell? w _ hx245_1)).trans hx245_1
                          replace hx245_2 := (HB.out.cell (World.block_lt_of_cell? w _ hx245_2)).trans hx245_2
                          replace p245 := eq_true p245
                          replace q245 := eq_true q245
                          have p246 : 0 ≤ (((rd_T69 l0_2 x12_5).f1) : Int) := of_decide_eq_true (by first | (with_reducible assumption) | assumption)
                          have q246 : ((rd_T69 l0_2 x12_5).f1) < (l1_2.length : Int) := of_decide_eq_true (by first | (with_reducible assumption) | assumption)
                          obtain ⟨ad246, e246, hx246_0⟩ := Kd.at_int HR1_2.out ((rd_T69 l0_2 x12_5).f1) p246 q246
                          cases e246
                          replace hx246_0 := (HB.out.cell (World.block_lt_of_cell? w _ hx246_0)).trans hx246_0
                          replace p246 := eq_true p246
                          replace q246 := eq_true q246
                          have p247 : 0 ≤ (x12_5 : Int) := of_decide_eq_true (by first | (with_reducible assumption) | assumption)
                          have q247 : x12_5 < (l0_2.length : Int) := of_decide_eq_true (by first | (with_reducible assumption) | assumption)
                          obtain ⟨ad247, e247, hx247_0, hx247_1, hx247_2⟩ := at_T69 HR0_2.out x12_5 p247 q247
                          obtain rfl : ad243 = ad247 := (by injection e247)
                          replace hx247_0 := (HB.out.cell (World.block_lt_of_cell? w _ hx247_0)).trans hx247_0
                          replace hx247_1 := (HB.out.cell (World.block_lt_of_cell? w _ hx247_1)).trans hx247_1
                          replace hx247_2 := (HB.out.cell (World.block_lt_of_cell? w _ hx247_2)).trans hx247_2
                          replace p247 := eq_true p247
                          replace q247 := eq_true q247
                          go_wp2
                          repeat (go_quiet (fail); try go_wp2)
                          go_roundg k5
                          case measure => have := HJ2.out; have := HK2.out; have := HK3.out; have := HK4.out; have := HK5.out; omega
                          case rel => exact ⟨(wrap64 (x12_5 + 1)), (by first | rfl | (simp; done) | (simp [*]; done)), H', ⟨by have := HJ2.out; have := HK2.out; have := HK3.out; have := HK4.out; have := HK5.out; omega⟩, ⟨by (with_reducible repeat (first | refine blk_drewN ?_ _ | refine blk_drew ?_ | refine blk_alloc ?_ _)); exact BK216.out⟩, ⟨by (with_reducible repeat (first | refine blk_drewN ?_ _ | refine blk_drew ?_ | refine blk_alloc ?_ _)); exact BK217.out⟩, ⟨by repeat (first | (with_reducible first | exact HB.out | apply below_alloc | apply pw_below_drewN | apply below_drew1 | refine below_set ?_ GE216.out | refine below_set ?_ GE217.out) | exact HB.out)⟩⟩
                        ·rw [if_neg c192] at H
                         exact absurd H (by simp)
                       ·rw [if_neg c191] at H
                        exact absurd H (by simp)
                      ·rw [if_neg c190] at H
                       exact absurd H (by simp)
                     ·rw [if_neg c189] at H
                      exact absurd H (by simp)
                    ·rw [if_neg c188] at H
                     exact absurd H (by simp)
                   ·rw [if_neg c187] at H
                    have c187b0 : decide (x12_5 < (l0_2.length : Int)) = false := decide_eq_false c187
                    clear c187
                    obtain rfl := Option.some.inj H
                    have hnb200 := NB216_217.out
                    have hnc200 := NB217_216.out
                    have hcz201_0 : wr.cell? ⟨gb216, 0, none⟩ = some (.int .i64 a0_0) := (blk_cell BK216.out 0).trans rfl
                    have hcz201_1 : wr.cell? ⟨gb216, 1, none⟩ = some (.int .i64 a0_1) := (blk_cell BK216.out 1).trans rfl
                    have hcz201_2 : wr.cell? ⟨gb216, 2, none⟩ = some (.slice A0_2 l0_2.length c0_2) := (blk_cell BK216.out 2).trans rfl
                    have hfz201_0 := blk_frozen BK216.out 0
                    have hfz201_1 := blk_frozen BK216.out 1
                    have hfz201_2 := blk_frozen BK216.out 2
                    go_wp2
                    repeat (go_quiet (fail); try go_wp2)
                    go_ret
                    exact ⟨by first | rfl | (simp [errW_none, errW_some] <;> rfl) | (simp [*, errW_none, errW_some] <;> rfl), by repeat (first | (with_reducible first | exact HB.out | apply below_alloc | apply pw_below_drewN | apply below_drew1 | refine below_set ?_ GE216.out | refine below_set ?_ GE217.out) | exact HB.out)⟩
       ·rw [if_neg c17] at H
        exact absurd H (by simp)
      ·rw [if_neg c16] at H
       exact absurd H (by simp)
     ·rw [if_neg c15] at H
      exact absurd H (by simp)
    ·rw [if_neg c14] at H
     exact absurd H (by simp)

end Go.Proofs.Ytmdidgdcdlodlaa.Q
