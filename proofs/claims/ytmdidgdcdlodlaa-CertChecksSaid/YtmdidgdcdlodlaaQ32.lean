/- What functions of the program answer, each by a Lean function and the proof of its call; written by this session's program gp.py and by hand. Conditions: those that stand in each theorem. -/
import Derived.Test.YtmdidgdcdlodlaaQ0
namespace Go.Proofs.Ytmdidgdcdlodlaa.Q
open Go.RowKit Go.Proofs.YtmdidgdcdlodlaaW.PrintWords Go.Proofs.YtmdidgdcdlodlaaW.PrintLast Go.Proofs.YtmdidgdcdlodlaaW.PrintMore
attribute [local go_sem] max2_int min2_int max_two min_two max_three min_three max_four min_four   -- for this text's walks alone
set_option linter.unusedVariables false
set_option linter.unusedSimpArgs false

/-! ### cabstandref18_Hold: function 46 -/
mutual
def cabstandref18_Hold.l0 : Nat → List Int → List Int → Int → Int → Int → List (S69) → Option (Bool)
  | 0, _, _, _, _, _, _ => none
  | k + 1, x1, x2, x7, x344000, x344001, x344002 => if x7 < (x1.length : Int) then (if 0 ≤ x7 then (if (rd x1 x7) < 0 then (some false) else (cabstandref18_Hold.l0 k x1 x2 (wrap64 (x7 + 1)) x344000 x344001 x344002)) else (none)) else (cabstandref18_Hold.l1 k x1 x2 0 x344000 x344001 x344002)
def cabstandref18_Hold.l1 : Nat → List Int → List Int → Int → Int → Int → List (S69) → Option (Bool)
  | 0, _, _, _, _, _, _ => none
  | k + 1, x1, x2, x8, x344000, x344001, x344002 => if x8 < (x2.length : Int) then (if 0 ≤ x8 then (if (rd x2 x8) < 0 then (some false) else (cabstandref18_Hold.l1 k x1 x2 (wrap64 (x8 + 1)) x344000 x344001 x344002)) else (none)) else (cabstandref18_Hold.l2 k x1 x2 0 x344000 x344001 x344002)
def cabstandref18_Hold.l2 : Nat → List Int → List Int → Int → Int → Int → List (S69) → Option (Bool)
  | 0, _, _, _, _, _, _ => none
  | k + 1, x1, x2, x9, x344000, x344001, x344002 => if x9 < (x344002.length : Int) then (if 0 ≤ x9 then (if 0 ≤ ((rd_T69 x344002 x9).f0) then (if ((rd_T69 x344002 x9).f0) < (x1.length : Int) then (if 0 ≤ ((rd_T69 x344002 x9).f1) then (if ((rd_T69 x344002 x9).f1) < (x2.length : Int) then (if (wrap64 (((rd_T69 x344002 x9).f2) - (rd x1 ((rd_T69 x344002 x9).f0)))) > (rd x2 ((rd_T69 x344002 x9).f1)) then (some false) else (cabstandref18_Hold.l2 k x1 x2 (wrap64 (x9 + 1)) x344000 x344001 x344002)) else (none)) else (none)) else (none)) else (none)) else (none)) else (some true)
end
def cabstandref18_Hold.f (k : Nat) (a0_0 : Int) (a0_1 : Int) (l0_2 : List (S69)) (l1 : List Int) (l2 : List Int) : Option (Bool) := cabstandref18_Hold.l0 k l1 l2 0 a0_0 a0_1 l0_2
theorem cabstandref18_Hold.mono_l : ∀ k, (∀ y0 y1 y2 y3 y4 y5, LeO (cabstandref18_Hold.l0 k y0 y1 y2 y3 y4 y5) (cabstandref18_Hold.l0 (k + 1) y0 y1 y2 y3 y4 y5)) ∧ (∀ y0 y1 y2 y3 y4 y5, LeO (cabstandref18_Hold.l1 k y0 y1 y2 y3 y4 y5) (cabstandref18_Hold.l1 (k + 1) y0 y1 y2 y3 y4 y5)) ∧ (∀ y0 y1 y2 y3 y4 y5, LeO (cabstandref18_Hold.l2 k y0 y1 y2 y3 y4 y5) (cabstandref18_Hold.l2 (k + 1) y0 y1 y2 y3 y4 y5))
  | 0 => ⟨fun _ _ _ _ _ _ r h => by simp [cabstandref18_Hold.l0] at h, fun _ _ _ _ _ _ r h => by simp [cabstandref18_Hold.l1] at h, fun _ _ _ _ _ _ r h => by simp [cabstandref18_Hold.l2] at h⟩
  | k + 1 => by
    obtain ⟨ih0, ih1, ih2⟩ := cabstandref18_Hold.mono_l k
    refine ⟨?_, ?_, ?_⟩
    · intro y0 y1 y2 y3 y4 y5
      unfold cabstandref18_Hold.l0
      repeat' first
      | (with_reducible exact ih0 _ _ _ _ _ _)
      | (with_reducible exact ih1 _ _ _ _ _ _)
      | (with_reducible exact ih2 _ _ _ _ _ _)
      | (with_reducible exact LeO.refl _)
      | (with_reducible exact LeO.none _)
      | (with_reducible refine LeO.ite ?_ ?_)
      | (with_reducible refine LeO.bind ?_ (fun _ => ?_))
      | exact ih0 _ _ _ _ _ _
      | exact ih1 _ _ _ _ _ _
      | exact ih2 _ _ _ _ _ _
      | exact LeO.none _
      | refine LeO.ite ?_ ?_
      | refine LeO.bind ?_ (fun _ => ?_)
    · intro y0 y1 y2 y3 y4 y5
      unfold cabstandref18_Hold.l1
      repeat' first
      | (with_reducible exact ih0 _ _ _ _ _ _)
      | (with_reducible exact ih1 _ _ _ _ _ _)
      | (with_reducible exact ih2 _ _ _ _ _ _)
      | (with_reducible exact LeO.refl _)
      | (with_reducible exact LeO.none _)
      | (with_reducible refine LeO.ite ?_ ?_)
      | (with_reducible refine LeO.bind ?_ (fun _ => ?_))
      | exact ih0 _ _ _ _ _ _
      | exact ih1 _ _ _ _ _ _
      | exact ih2 _ _ _ _ _ _
      | exact LeO.none _
      | refine LeO.ite ?_ ?_
      | refine LeO.bind ?_ (fun _ => ?_)
    · intro y0 y1 y2 y3 y4 y5
      unfold cabstandref18_Hold.l2
      repeat' first
      | (with_reducible exact ih0 _ _ _ _ _ _)
      | (with_reducible exact ih1 _ _ _ _ _ _)
      | (with_reducible exact ih2 _ _ _ _ _ _)
      | (with_reducible exact LeO.refl _)
      | (with_reducible exact LeO.none _)
      | (with_reducible refine LeO.ite ?_ ?_)
      | (with_reducible refine LeO.bind ?_ (fun _ => ?_))
      | exact ih0 _ _ _ _ _ _
      | exact ih1 _ _ _ _ _ _
      | exact ih2 _ _ _ _ _ _
      | exact LeO.none _
      | refine LeO.ite ?_ ?_
      | refine LeO.bind ?_ (fun _ => ?_)
theorem cabstandref18_Hold.mono : ∀ a0 a1 a2 a3 a4 k, LeO (cabstandref18_Hold.f k a0 a1 a2 a3 a4) (cabstandref18_Hold.f (k + 1) a0 a1 a2 a3 a4) := by
  intro a0 a1 a2 a3 a4 k
  obtain ⟨ih0, ih1, ih2⟩ := cabstandref18_Hold.mono_l k
  unfold cabstandref18_Hold.f
  repeat' first
      | (with_reducible exact ih0 _ _ _ _ _ _)
      | (with_reducible exact ih1 _ _ _ _ _ _)
      | (with_reducible exact ih2 _ _ _ _ _ _)
      | (with_reducible exact LeO.refl _)
      | (with_reducible exact LeO.none _)
      | (with_reducible refine LeO.ite ?_ ?_)
      | (with_reducible refine LeO.bind ?_ (fun _ => ?_))
      | exact ih0 _ _ _ _ _ _
      | exact ih1 _ _ _ _ _ _
      | exact ih2 _ _ _ _ _ _
      | exact LeO.none _
      | refine LeO.ite ?_ ?_
      | refine LeO.bind ?_ (fun _ => ?_)
set_option maxHeartbeats 8000000 in
set_option maxRecDepth 100000 in
theorem cabstandref18_Hold.calls (k : Nat) (a0_0 : Int) (a0_1 : Int) (A0_2 : Option Addr) (c0_2 : Nat) (l0_2 : List (S69)) (A1 : Option Addr) (c1 : Nat) (l1 : List Int) (A2 : Option Addr) (c2 : Nat) (l2 : List Int) (r : Bool) (w : World) (hr0_2 : Kd.C k69 w A0_2 l0_2.length l0_2) (hc0_2 : l0_2.length ≤ c0_2) (hr1 : Kd.C (Kd.int .i64) w A1 l1.length l1) (hc1 : l1.length ≤ c1) (hr2 : Kd.C (Kd.int .i64) w A2 l2.length l2) (hc2 : l2.length ≤ c2) (h : cabstandref18_Hold.f k a0_0 a0_1 l0_2 l1 l2 = some r) :
    Calls Try.prog 46 #[.agg #[.int .i64 a0_0, .int .i64 a0_1, .slice A0_2 l0_2.length c0_2], .slice A1 l1.length c1, .slice A2 l2.length c2] w fun e w' => e = .returned (.bool r) ∧ Below w.heap.size w w' := by
  have hu24 := Try.underlying24
  have hu69 := Try.underlying69
  have HR0_2 := Aside0.mk hr0_2
  have HC0_2 := Aside0.mk hc0_2
  clear hr0_2 hc0_2
  have HR1 := Aside0.mk hr1
  have HC1 := Aside0.mk hc1
  clear hr1 hc1
  have HR2 := Aside0.mk hr2
  have HC2 := Aside0.mk hc2
  clear hr2 hc2
  have HB := Aside0.mk (Below.refl w.heap.size w)
  have H : (cabstandref18_Hold.l0 k l1 l2 0 a0_0 a0_1 l0_2) = some r := h
  clear h
  have H' := Aside0.mk H
  clear H
  go_enter Try.func46, Try.ntmps46
  go_wp2_with (first | ((with_reducible refine gate_dst (N := 3) rfl ?_); refine box_event ?hg (N := 3) ?hd (cs := #[.int .i64 a0_0, .int .i64 a0_1, .slice A0_2 l0_2.length c0_2]) (t := 24) ?hr ?_; (case hd => rfl); (case hg => rfl); (case hr => first | (go_simp; done) | (go_simp; rfl)); intro gb343 hg w4 hbox hb; have n0_ := Aside0.mk (below_step (by repeat (first | (with_reducible first | exact HB.out | apply below_alloc | apply pw_below_drewN | apply below_drew1) | exact HB.out)) hb); have n1_ := Aside0.mk (hbox); have n2_ := Aside0.mk ((by rw [hg]; exact (below_size (by repeat (first | (with_reducible first | exact HB.out | apply below_alloc | apply pw_below_drewN | apply below_drew1) | exact HB.out))) : w.heap.size ≤ gb343)); have n3_ := Aside0.mk ((by rw [hg]; exact (below_size (by repeat (first | (with_reducible first | exact HB.out | apply below_alloc | apply pw_below_drewN | apply below_drew1) | exact HB.out))) : w.heap.size ≤ gb343)); clear HB; have HB := n0_; have BK343 := n1_; have GW343 := n2_; have GE343 := n3_; clear n0_ n1_ n2_ n3_; clear hb hbox hg))
  repeat (go_quiet (first | ((with_reducible refine gate_dst (N := 3) rfl ?_); refine box_event ?hg (N := 3) ?hd (cs := #[.int .i64 a0_0, .int .i64 a0_1, .slice A0_2 l0_2.length c0_2]) (t := 24) ?hr ?_; (case hd => rfl); (case hg => rfl); (case hr => first | (go_simp; done) | (go_simp; rfl)); intro gb343 hg w4 hbox hb; have n0_ := Aside0.mk (below_step (by repeat (first | (with_reducible first | exact HB.out | apply below_alloc | apply pw_below_drewN | apply below_drew1) | exact HB.out)) hb); have n1_ := Aside0.mk (hbox); have n2_ := Aside0.mk ((by rw [hg]; exact (below_size (by repeat (first | (with_reducible first | exact HB.out | apply below_alloc | apply pw_below_drewN | apply below_drew1) | exact HB.out))) : w.heap.size ≤ gb343)); have n3_ := Aside0.mk ((by rw [hg]; exact (below_size (by repeat (first | (with_reducible first | exact HB.out | apply below_alloc | apply pw_below_drewN | apply below_drew1) | exact HB.out))) : w.heap.size ≤ gb343)); clear HB; have HB := n0_; have BK343 := n1_; have GW343 := n2_; have GE343 := n3_; clear n0_ n1_ n2_ n3_; clear hb hbox hg)); try go_wp2_with (first | ((with_reducible refine gate_dst (N := 3) rfl ?_); refine box_event ?hg (N := 3) ?hd (cs := #[.int .i64 a0_0, .int .i64 a0_1, .slice A0_2 l0_2.length c0_2]) (t := 24) ?hr ?_; (case hd => rfl); (case hg => rfl); (case hr => first | (go_simp; done) | (go_simp; rfl)); intro gb343 hg w4 hbox hb; have n0_ := Aside0.mk (below_step (by repeat (first | (with_reducible first | exact HB.out | apply below_alloc | apply pw_below_drewN | apply below_drew1) | exact HB.out)) hb); have n1_ := Aside0.mk (hbox); have n2_ := Aside0.mk ((by rw [hg]; exact (below_size (by repeat (first | (with_reducible first | exact HB.out | apply below_alloc | apply pw_below_drewN | apply below_drew1) | exact HB.out))) : w.heap.size ≤ gb343)); have n3_ := Aside0.mk ((by rw [hg]; exact (below_size (by repeat (first | (with_reducible first | exact HB.out | apply below_alloc | apply pw_below_drewN | apply below_drew1) | exact HB.out))) : w.heap.size ≤ gb343)); clear HB; have HB := n0_; have BK343 := n1_; have GW343 := n2_; have GE343 := n3_; clear n0_ n1_ n2_ n3_; clear hb hbox hg)))
  go_loopg [7] k (fun kq v7 w' => ∃ (x7_1 : Int), v7 = .int .i64 x7_1 ∧ Aside0 (cabstandref18_Hold.l0 kq l1 l2 x7_1 a0_0 a0_1 l0_2 = some r) ∧ Aside0 (kq ≤ k) ∧ Aside0 (w'.heap[gb343]? = some (.cells #[.int .i64 a0_0, .int .i64 a0_1, (.slice A0_2 l0_2.length c0_2)] 24 (0, 0))) ∧ Aside0 (Below w.heap.size w w'))
  case atStart => exact ⟨(0), (by first | rfl | (simp; done) | (simp [*]; done)), H', ⟨Nat.le_refl _⟩, ⟨by (with_reducible repeat (first | refine blk_drewN ?_ _ | refine blk_drew ?_ | refine blk_alloc ?_ _)); exact BK343.out⟩, ⟨by repeat (first | (with_reducible first | exact HB.out | apply below_alloc | apply pw_below_drewN | apply below_drew1 | refine below_set ?_ GE343.out) | exact HB.out)⟩⟩
  case round =>
    clear H'
    try clear c1
    try clear c2
    try clear p2
    try clear c4
    obtain ⟨x7_1, rfl, HA, HK1, BK343, HB⟩ := hrel
    cases gk with
    | zero => exact absurd HA.out (by simp [cabstandref18_Hold.l0])
    | succ k1 =>
      have H := HA.out
      clear HA
      simp only [cabstandref18_Hold.l0] at H
      by_cases c5 : x7_1 < (l1.length : Int)
      · rw [if_pos c5] at H
        have c5b0 : decide (x7_1 < (l1.length : Int)) = true := decide_eq_true c5
        clear c5
        by_cases c6 : 0 ≤ x7_1
        · rw [if_pos c6] at H
          have c6b0 : decide (0 ≤ x7_1) = true := decide_eq_true c6
          clear c6
          by_cases c7 : (rd l1 x7_1) < 0
          · rw [if_pos c7] at H
            have c7b0 : decide ((rd l1 x7_1) < 0) = true := decide_eq_true c7
            clear c7
            obtain rfl := Option.some.inj H
            have p344 : 0 ≤ (x7_1 : Int) := of_decide_eq_true (by first | (with_reducible assumption) | assumption)
            have q344 : x7_1 < (l1.length : Int) := of_decide_eq_true (by first | (with_reducible assumption) | assumption)
            obtain ⟨ad344, e344, hx344_0⟩ := Kd.at_int HR1.out x7_1 p344 q344
            cases e344
            replace hx344_0 := (HB.out.cell (World.block_lt_of_cell? w _ hx344_0)).trans hx344_0
            replace p344 := eq_true p344
            replace q344 := eq_true q344
            go_wp2
            repeat (go_quiet (fail); try go_wp2)
            go_ret
            exact ⟨by first | rfl | (simp [errW_none, errW_some] <;> rfl) | (simp [*, errW_none, errW_some] <;> rfl), by repeat (first | (with_reducible first | exact HB.out | apply below_alloc | apply pw_below_drewN | apply below_drew1 | refine below_set ?_ GE343.out) | exact HB.out)⟩
          · rw [if_neg c7] at H
            have c7b0 : decide ((rd l1 x7_1) < 0) = false := decide_eq_false c7
            clear c7
            have H' := Aside0.mk H
            clear H
            have p344 : 0 ≤ (x7_1 : Int) := of_decide_eq_true (by first | (with_reducible assumption) | assumption)
            have q344 : x7_1 < (l1.length : Int) := of_decide_eq_true (by first | (with_reducible assumption) | assumption)
            obtain ⟨ad344, e344, hx344_0⟩ := Kd.at_int HR1.out x7_1 p344 q344
            cases e344
            replace hx344_0 := (HB.out.cell (World.block_lt_of_cell? w _ hx344_0)).trans hx344_0
            replace p344 := eq_true p344
            replace q344 := eq_true q344
            go_wp2
            repeat (go_quiet (fail); try go_wp2)
            go_roundg k1
            case measure => have := HK1.out; omega
            case rel => exact ⟨(wrap64 (x7_1 + 1)), (by first | rfl | (simp; done) | (simp [*]; done)), H', ⟨by have := HK1.out; omega⟩, ⟨by (with_reducible repeat (first | refine blk_drewN ?_ _ | refine blk_drew ?_ | refine blk_alloc ?_ _)); exact BK343.out⟩, ⟨by repeat (first | (with_reducible first | exact HB.out | apply below_alloc | apply pw_below_drewN | apply below_drew1 | refine below_set ?_ GE343.out) | exact HB.out)⟩⟩
        · rw [if_neg c6] at H
          exact absurd H (by simp)
      · rw [if_neg c5] at H
        have c5b0 : decide (x7_1 < (l1.length : Int)) = false := decide_eq_false c5
        clear c5
        have H' := Aside0.mk H
        clear H
        go_wp2
        repeat (go_quiet (fail); try go_wp2)
        go_loopg [8] k1 (fun kq v8 w' => ∃ (x8_2 : Int), v8 = .int .i64 x8_2 ∧ Aside0 (cabstandref18_Hold.l1 kq l1 l2 x8_2 a0_0 a0_1 l0_2 = some r) ∧ Aside0 (kq ≤ k1) ∧ Aside0 (w'.heap[gb343]? = some (.cells #[.int .i64 a0_0, .int .i64 a0_1, (.slice A0_2 l0_2.length c0_2)] 24 (0, 0))) ∧ Aside0 (Below w.heap.size w w'))
        case atStart => exact ⟨(0), (by first | rfl | (simp; done) | (simp [*]; done)), H', ⟨Nat.le_refl _⟩, ⟨by (with_reducible repeat (first | refine blk_drewN ?_ _ | refine blk_drew ?_ | refine blk_alloc ?_ _)); exact BK343.out⟩, ⟨by repeat (first | (with_reducible first | exact HB.out | apply below_alloc | apply pw_below_drewN | apply below_drew1 | refine below_set ?_ GE343.out) | exact HB.out)⟩⟩
        case round =>
          clear H'
          try clear c1
          try clear c2
          try clear p2
          try clear p3
          try clear q3
          try clear hx3
          try clear c4
          try clear c5
          try clear c5b0
          try clear c6
          try clear c6b0
          try clear p6
          try clear c7
          try clear c7b0
          try clear hx344_0
          try clear p2
          try clear p344
          try clear q344
          obtain ⟨x8_2, rfl, HA, HK2, BK343, HB⟩ := hrel
          cases gk with
          | zero => exact absurd HA.out (by simp [cabstandref18_Hold.l1])
          | succ k2 =>
            have H := HA.out
            clear HA
            simp only [cabstandref18_Hold.l1] at H
            by_cases c8 : x8_2 < (l2.length : Int)
            · rw [if_pos c8] at H
              have c8b0 : decide (x8_2 < (l2.length : Int)) = true := decide_eq_true c8
              clear c8
              by_cases c9 : 0 ≤ x8_2
              · rw [if_pos c9] at H
                have c9b0 : decide (0 ≤ x8_2) = true := decide_eq_true c9
                clear c9
                by_cases c10 : (rd l2 x8_2) < 0
                · rw [if_pos c10] at H
                  have c10b0 : decide ((rd l2 x8_2) < 0) = true := decide_eq_true c10
                  clear c10
                  obtain rfl := Option.some.inj H
                  have p345 : 0 ≤ (x8_2 : Int) := of_decide_eq_true (by first | (with_reducible assumption) | assumption)
                  have q345 : x8_2 < (l2.length : Int) := of_decide_eq_true (by first | (with_reducible assumption) | assumption)
                  obtain ⟨ad345, e345, hx345_0⟩ := Kd.at_int HR2.out x8_2 p345 q345
                  cases e345
                  replace hx345_0 := (HB.out.cell (World.block_lt_of_cell? w _ hx345_0)).trans hx345_0
                  replace p345 := eq_true p345
                  replace q345 := eq_true q345
                  go_wp2
                  repeat (go_quiet (fail); try go_wp2)
                  go_ret
                  exact ⟨by first | rfl | (simp [errW_none, errW_some] <;> rfl) | (simp [*, errW_none, errW_some] <;> rfl), by repeat (first | (with_reducible first | exact HB.out | apply below_alloc | apply pw_below_drewN | apply below_drew1 | refine below_set ?_ GE343.out) | exact HB.out)⟩
                · rw [if_neg c10] at H
                  have c10b0 : decide ((rd l2 x8_2) < 0) = false := decide_eq_false c10
                  clear c10
                  have H' := Aside0.mk H
                  clear H
                  have p345 : 0 ≤ (x8_2 : Int) := of_decide_eq_true (by first | (with_reducible assumption) | assumption)
                  have q345 : x8_2 < (l2.length : Int) := of_decide_eq_true (by first | (with_reducible assumption) | assumption)
                  obtain ⟨ad345, e345, hx345_0⟩ := Kd.at_int HR2.out x8_2 p345 q345
                  cases e345
                  replace hx345_0 := (HB.out.cell (World.block_lt_of_cell? w _ hx345_0)).trans hx345_0
                  replace p345 := eq_true p345
                  replace q345 := eq_true q345
                  go_wp2
                  repeat (go_quiet (fail); try go_wp2)
                  go_roundg k2
                  case measure => have := HK1.out; have := HK2.out; omega
                  case rel => exact ⟨(wrap64 (x8_2 + 1)), (by first | rfl | (simp; done) | (simp [*]; done)), H', ⟨by have := HK1.out; have := HK2.out; omega⟩, ⟨by (with_reducible repeat (first | refine blk_drewN ?_ _ | refine blk_drew ?_ | refine blk_alloc ?_ _)); exact BK343.out⟩, ⟨by repeat (first | (with_reducible first | exact HB.out | apply below_alloc | apply pw_below_drewN | apply below_drew1 | refine below_set ?_ GE343.out) | exact HB.out)⟩⟩
              · rw [if_neg c9] at H
                exact absurd H (by simp)
            · rw [if_neg c8] at H
              have c8b0 : decide (x8_2 < (l2.length : Int)) = false := decide_eq_false c8
              clear c8
              have H' := Aside0.mk H
              clear H
              go_wp2
              repeat (go_quiet (fail); try go_wp2)
              go_loopg [9] k2 (fun kq v9 w' => ∃ (x9_3 : Int), v9 = .int .i64 x9_3 ∧ Aside0 (cabstandref18_Hold.l2 kq l1 l2 x9_3 a0_0 a0_1 l0_2 = some r) ∧ Aside0 (kq ≤ k2) ∧ Aside0 (w'.heap[gb343]? = some (.cells #[.int .i64 a0_0, .int .i64 a0_1, (.slice A0_2 l0_2.length c0_2)] 24 (0, 0))) ∧ Aside0 (Below w.heap.size w w'))
              case atStart => exact ⟨(0), (by first | rfl | (simp; done) | (simp [*]; done)), H', ⟨Nat.le_refl _⟩, ⟨by (with_reducible repeat (first | refine blk_drewN ?_ _ | refine blk_drew ?_ | refine blk_alloc ?_ _)); exact BK343.out⟩, ⟨by repeat (first | (with_reducible first | exact HB.out | apply below_alloc | apply pw_below_drewN | apply below_drew1 | refine below_set ?_ GE343.out) | exact HB.out)⟩⟩
              case round =>
                clear H'
                try clear c1
                try clear c2
                try clear p2
                try clear p3
                try clear q3
                try clear hx3
                try clear c4
                try clear c5
                try clear c5b0
                try clear c6
                try clear c6b0
                try clear p6
                try clear c7
                try clear c7b0
                try clear c8
                try clear c8b0
                try clear c9
                try clear c9b0
                try clear c10
                try clear c10b0
                try clear hx344_0
                try clear hx345_0
                try clear p2
                try clear p3
                try clear p344
                try clear p345
                try clear p6
                try clear q3
                try clear q344
                try clear q345
                obtain ⟨x9_3, rfl, HA, HK3, BK343, HB⟩ := hrel
                cases gk with
                | zero => exact absurd HA.out (by simp [cabstandref18_Hold.l2])
                | succ k3 =>
                  have H := HA.out
                  clear HA
                  simp only [cabstandref18_Hold.l2] at H
                  by_cases c11 : x9_3 < (l0_2.length : Int)
                  · rw [if_pos c11] at H
                    have c11b0 : decide (x9_3 < (l0_2.length : Int)) = true := decide_eq_true c11
                    clear c11
                    by_cases c12 : 0 ≤ x9_3
                    · rw [if_pos c12] at H
                      have c12b0 : decide (0 ≤ x9_3) = true := decide_eq_true c12
                      clear c12
                      by_cases c13 : 0 ≤ ((rd_T69 l0_2 x9_3).f0)
                      · rw [if_pos c13] at H
                        have c13b0 : decide (0 ≤ ((rd_T69 l0_2 x9_3).f0)) = true := decide_eq_true c13
                        clear c13
                        by_cases c14 : ((rd_T69 l0_2 x9_3).f0) < (l1.length : Int)
                        · rw [if_pos c14] at H
                          have c14b0 : decide (((rd_T69 l0_2 x9_3).f0) < (l1.length : Int)) = true := decide_eq_true c14
                          clear c14
                          by_cases c15 : 0 ≤ ((rd_T69 l0_2 x9_3).f1)
                          · rw [if_pos c15] at H
                            have c15b0 : decide (0 ≤ ((rd_T69 l0_2 x9_3).f1)) = true := decide_eq_true c15
                            clear c15
                            by_cases c16 : ((rd_T69 l0_2 x9_3).f1) < (l2.length : Int)
                            · rw [if_pos c16] at H
                              have c16b0 : decide (((rd_T69 l0_2 x9_3).f1) < (l2.length : Int)) = true := decide_eq_true c16
                              clear c16
                              by_cases c17 : (wrap64 (((rd_T69 l0_2 x9_3).f2) - (rd l1 ((rd_T69 l0_2 x9_3).f0)))) > (rd l2 ((rd_T69 l0_2 x9_3).f1))
                              · rw [if_pos c17] at H
                                have c17b0 : decide ((rd l2 ((rd_T69 l0_2 x9_3).f1)) < (wrap64 (((rd_T69 l0_2 x9_3).f2) - (rd l1 ((rd_T69 l0_2 x9_3).f0))))) = true := decide_eq_true c17
                                clear c17
                                obtain rfl := Option.some.inj H
                                have hcz18_0 : wr.cell? ⟨gb343, 0, none⟩ = some (.int .i64 a0_0) := (blk_cell BK343.out 0).trans rfl
                                have hcz18_1 : wr.cell? ⟨gb343, 1, none⟩ = some (.int .i64 a0_1) := (blk_cell BK343.out 1).trans rfl
                                have hcz18_2 : wr.cell? ⟨gb343, 2, none⟩ = some (.slice A0_2 l0_2.length c0_2) := (blk_cell BK343.out 2).trans rfl
                                have hfz18_0 := blk_frozen BK343.out 0
                                have hfz18_1 := blk_frozen BK343.out 1
                                have hfz18_2 := blk_frozen BK343.out 2
                                have p346 : 0 ≤ (x9_3 : Int) := of_decide_eq_true (by first | (with_reducible assumption) | assumption)
                                have q346 : x9_3 < (l0_2.length : Int) := of_decide_eq_true (by first | (with_reducible assumption) | assumption)
                                obtain ⟨ad346, e346, hx346_0, hx346_1, hx346_2⟩ := at_T69 HR0_2.out x9_3 p346 q346
                                cases e346
                                replace hx346_0 := (HB.out.cell (World.block_lt_of_cell? w _ hx346_0)).trans hx346_0
                                replace hx346_1 := (HB.out.cell (World.block_lt_of_cell? w _ hx346_1)).trans hx346_1
                                replace hx346_2 := (HB.out.cell (World.block_lt_of_cell? w _ hx346_2)).trans hx346_2
                                replace p346 := eq_true p346
                                replace q346 := eq_true q346
                                go_wp2_with (first | ((with_reducible refine gate_dst (N := 10) rfl ?_); refine box_event ?hg (N := 10) ?hd (cs := #[.int .i64 0, .int .i64 0, .int .i64 0]) (t := 69) ?hr ?_; (case hd => rfl); (case hg => rfl); (case hr => first | (go_simp; done) | (go_simp; rfl)); intro gb347 hg w19 hbox hb; have n0_ := Aside0.mk (blk_below (g := gb343) (o := .cells #[.int .i64 a0_0, .int .i64 a0_1, .slice (some ad346) l0_2.length c0_2] 24 (0, 0)) (by (with_reducible repeat (first | refine blk_drewN ?_ _ | refine blk_drew ?_ | refine blk_alloc ?_ _)); exact BK343.out) hb); have n1_ := Aside0.mk (below_step (by repeat (first | (with_reducible first | exact HB.out | apply below_alloc | apply pw_below_drewN | apply below_drew1 | refine below_set ?_ GE343.out) | exact HB.out)) hb); have n2_ := Aside0.mk (hbox); have n3_ := Aside0.mk ((by rw [hg]; exact (below_size (by repeat (first | (with_reducible first | exact HB.out | apply below_alloc | apply pw_below_drewN | apply below_drew1 | refine below_set ?_ GE343.out) | exact HB.out))) : w.heap.size ≤ gb347)); have n4_ := Aside0.mk ((by rw [hg]; exact (below_size (by repeat (first | (with_reducible first | exact HB.out | apply below_alloc | apply pw_below_drewN | apply below_drew1 | refine below_set ?_ GE343.out) | exact HB.out))) : w.heap.size ≤ gb347)); have n5_ := Aside0.mk ((by rw [hg]; exact Nat.ne_of_lt (blk_lt (g := gb343) (o := .cells #[.int .i64 a0_0, .int .i64 a0_1, .slice (some ad346) l0_2.length c0_2] 24 (0, 0)) (by (with_reducible repeat (first | refine blk_drewN ?_ _ | refine blk_drew ?_ | refine blk_alloc ?_ _)); exact BK343.out)) : gb343 ≠ gb347)); have n6_ := Aside0.mk ((by rw [hg]; exact Nat.ne_of_gt (blk_lt (g := gb343) (o := .cells #[.int .i64 a0_0, .int .i64 a0_1, .slice (some ad346) l0_2.length c0_2] 24 (0, 0)) (by (with_reducible repeat (first | refine blk_drewN ?_ _ | refine blk_drew ?_ | refine blk_alloc ?_ _)); exact BK343.out)) : gb347 ≠ gb343)); clear BK343; clear HB; have BK343 := n0_; have HB := n1_; have BK347 := n2_; have GW347 := n3_; have GE347 := n4_; have NB343_347 := n5_; have NB347_343 := n6_; clear n0_ n1_ n2_ n3_ n4_ n5_ n6_; clear hb hbox hg; have hnb20 := NB347_343.out; have hnc20 := NB343_347.out; have hcz21_0 : w19.cell? ⟨gb347, 0, none⟩ = some (.int .i64 0) := (blk_cell BK347.out 0).trans rfl; have hcz21_1 : w19.cell? ⟨gb347, 1, none⟩ = some (.int .i64 0) := (blk_cell BK347.out 1).trans rfl; have hcz21_2 : w19.cell? ⟨gb347, 2, none⟩ = some (.int .i64 0) := (blk_cell BK347.out 2).trans rfl; have hfz21_0 := blk_frozen BK347.out 0; have hfz21_1 := blk_frozen BK347.out 1; have hfz21_2 := blk_frozen BK347.out 2; have p348 : 0 ≤ (((rd_T69 l0_2 x9_3).f0) : Int) := of_decide_eq_true (by first | (with_reducible assumption) | assumption); have q348 : ((rd_T69 l0_2 x9_3).f0) < (l1.length : Int) := of_decide_eq_true (by first | (with_reducible assumption) | assumption); obtain ⟨ad348, e348, hx348_0⟩ := Kd.at_int HR1.out ((rd_T69 l0_2 x9_3).f0) p348 q348; cases e348; have hn348_0 : ad348.block ≠ gb347 := Nat.ne_of_lt (Nat.lt_of_lt_of_le (by have := World.block_lt_of_cell? _ _ hx348_0; first | rwa [add_block] at this | exact this) GW347.out); have hn348_1 : ad348.block ≠ gb347 := Nat.ne_of_lt (Nat.lt_of_lt_of_le (by have := World.block_lt_of_cell? _ _ hx348_0; first | rwa [add_block] at this | exact this) GW347.out); have hn348_2 : ad348.block ≠ gb347 := Nat.ne_of_lt (Nat.lt_of_lt_of_le (by have := World.block_lt_of_cell? _ _ hx348_0; first | rwa [add_block] at this | exact this) GW347.out); replace hx348_0 := (HB.out.cell (World.block_lt_of_cell? w _ hx348_0)).trans hx348_0; replace hx348_0 := (cell_far (p := ⟨gb347, 0, none⟩) (by first | (rw [add_block]; exact hn348_0) | (show (Addr.add _ _).block ≠ _; rw [add_block]; exact hn348_0) | exact hn348_0) (.int .i64 ((rd_T69 l0_2 x9_3).f0))).trans hx348_0; replace hx348_0 := (cell_far (p := ⟨gb347, 1, none⟩) (by first | (rw [add_block]; exact hn348_1) | (show (Addr.add _ _).block ≠ _; rw [add_block]; exact hn348_1) | exact hn348_1) (.int .i64 ((rd_T69 l0_2 x9_3).f1))).trans hx348_0; replace hx348_0 := (cell_far (p := ⟨gb347, 2, none⟩) (by first | (rw [add_block]; exact hn348_2) | (show (Addr.add _ _).block ≠ _; rw [add_block]; exact hn348_2) | exact hn348_2) (.int .i64 ((rd_T69 l0_2 x9_3).f2))).trans hx348_0; (try have hy348_0 := fun (n_ : Nat) => (show (((((w19.drewN n_).setCell ⟨gb347, 0, none⟩ (.int .i64 ((rd_T69 l0_2 x9_3).f0))).setCell ⟨gb347, 1, none⟩ (.int .i64 ((rd_T69 l0_2 x9_3).f1))).setCell ⟨gb347, 2, none⟩ (.int .i64 ((rd_T69 l0_2 x9_3).f2)))).cell? _ = some _ from hx348_0)); clear hn348_0; clear hn348_1; clear hn348_2; replace p348 := eq_true p348; replace q348 := eq_true q348; have p349 : 0 ≤ (((rd_T69 l0_2 x9_3).f1) : Int) := of_decide_eq_true (by first | (with_reducible assumption) | assumption); have q349 : ((rd_T69 l0_2 x9_3).f1) < (l2.length : Int) := of_decide_eq_true (by first | (with_reducible assumption) | assumption); obtain ⟨ad349, e349, hx349_0⟩ := Kd.at_int HR2.out ((rd_T69 l0_2 x9_3).f1) p349 q349; cases e349; have hn349_0 : ad349.block ≠ gb347 := Nat.ne_of_lt (Nat.lt_of_lt_of_le (by have := World.block_lt_of_cell? _ _ hx349_0; first | rwa [add_block] at this | exact this) GW347.out); have hn349_1 : ad349.block ≠ gb347 := Nat.ne_of_lt (Nat.lt_of_lt_of_le (by have := World.block_lt_of_cell? _ _ hx349_0; first | rwa [add_block] at this | exact this) GW347.out); have hn349_2 : ad349.block ≠ gb347 := Nat.ne_of_lt (Nat.lt_of_lt_of_le (by have := World.block_lt_of_cell? _ _ hx349_0; first | rwa [add_block] at this | exact this) GW347.out); replace hx349_0 := (HB.out.cell (World.block_lt_of_cell? w _ hx349_0)).trans hx349_0; replace hx349_0 := (cell_far (p := ⟨gb347, 0, none⟩) (by first | (rw [add_block]; exact hn349_0) | (show (Addr.add _ _).block ≠ _; rw [add_block]; exact hn349_0) | exact hn349_0) (.int .i64 ((rd_T69 l0_2 x9_3).f0))).trans hx349_0; replace hx349_0 := (cell_far (p := ⟨gb347, 1, none⟩) (by first | (rw [add_block]; exact hn349_1) | (show (Addr.add _ _).block ≠ _; rw [add_block]; exact hn349_1) | exact hn349_1) (.int .i64 ((rd_T69 l0_2 x9_3).f1))).trans hx349_0; replace hx349_0 := (cell_far (p := ⟨gb347, 2, none⟩) (by first | (rw [add_block]; exact hn349_2) | (show (Addr.add _ _).block ≠ _; rw [add_block]; exact hn349_2) | exact hn349_2) (.int .i64 ((rd_T69 l0_2 x9_3).f2))).trans hx349_0; (try have hy349_0 := fun (n_ : Nat) => (show (((((w19.drewN n_).setCell ⟨gb347, 0, none⟩ (.int .i64 ((rd_T69 l0_2 x9_3).f0))).setCell ⟨gb347, 1, none⟩ (.int .i64 ((rd_T69 l0_2 x9_3).f1))).setCell ⟨gb347, 2, none⟩ (.int .i64 ((rd_T69 l0_2 x9_3).f2)))).cell? _ = some _ from hx349_0)); clear hn349_0; clear hn349_1; clear hn349_2; replace p349 := eq_true p349; replace q349 := eq_true q349))
                                repeat (go_quiet (first | ((with_reducible refine gate_dst (N := 10) rfl ?_); refine box_event ?hg (N := 10) ?hd (cs := #[.int .i64 0, .int .i64 0, .int .i64 0]) (t := 69) ?hr ?_; (case hd => rfl); (case hg => rfl); (case hr => first | (go_simp; done) | (go_simp; rfl)); intro gb347 hg w19 hbox hb; have n0_ := Aside0.mk (blk_below (g := gb343) (o := .cells #[.int .i64 a0_0, .int .i64 a0_1, .slice (some ad346) l0_2.length c0_2] 24 (0, 0)) (by (with_reducible repeat (first | refine blk_drewN ?_ _ | refine blk_drew ?_ | refine blk_alloc ?_ _)); exact BK343.out) hb); have n1_ := Aside0.mk (below_step (by repeat (first | (with_reducible first | exact HB.out | apply below_alloc | apply pw_below_drewN | apply below_drew1 | refine below_set ?_ GE343.out) | exact HB.out)) hb); have n2_ := Aside0.mk (hbox); have n3_ := Aside0.mk ((by rw [hg]; exact (below_size (by repeat (first | (with_reducible first | exact HB.out | apply below_alloc | apply pw_below_drewN | apply below_drew1 | refine below_set ?_ GE343.out) | exact HB.out))) : w.heap.size ≤ gb347)); have n4_ := Aside0.mk ((by rw [hg]; exact (below_size (by repeat (first | (with_reducible first | exact HB.out | apply below_alloc | apply pw_below_drewN | apply below_drew1 | refine below_set ?_ GE343.out) | exact HB.out))) : w.heap.size ≤ gb347)); have n5_ := Aside0.mk ((by rw [hg]; exact Nat.ne_of_lt (blk_lt (g := gb343) (o := .cells #[.int .i64 a0_0, .int .i64 a0_1, .slice (some ad346) l0_2.length c0_2] 24 (0, 0)) (by (with_reducible repeat (first | refine blk_drewN ?_ _ | refine blk_drew ?_ | refine blk_alloc ?_ _)); exact BK343.out)) : gb343 ≠ gb347)); have n6_ := Aside0.mk ((by rw [hg]; exact Nat.ne_of_gt (blk_lt (g := gb343) (o := .cells #[.int .i64 a0_0, .int .i64 a0_1, .slice (some ad346) l0_2.length c0_2] 24 (0, 0)) (by (with_reducible repeat (first | refine blk_drewN ?_ _ | refine blk_drew ?_ | refine blk_alloc ?_ _)); exact BK343.out)) : gb347 ≠ gb343)); clear BK343; clear HB; have BK343 := n0_; have HB := n1_; have BK347 := n2_; have GW347 := n3_; have GE347 := n4_; have NB343_347 := n5_; have NB347_343 := n6_; clear n0_ n1_ n2_ n3_ n4_ n5_ n6_; clear hb hbox hg; have hnb20 := NB347_343.out; have hnc20 := NB343_347.out; have hcz21_0 : w19.cell? ⟨gb347, 0, none⟩ = some (.int .i64 0) := (blk_cell BK347.out 0).trans rfl; have hcz21_1 : w19.cell? ⟨gb347, 1, none⟩ = some (.int .i64 0) := (blk_cell BK347.out 1).trans rfl; have hcz21_2 : w19.cell? ⟨gb347, 2, none⟩ = some (.int .i64 0) := (blk_cell BK347.out 2).trans rfl; have hfz21_0 := blk_frozen BK347.out 0; have hfz21_1 := blk_frozen BK347.out 1; have hfz21_2 := blk_frozen BK347.out 2; have p348 : 0 ≤ (((rd_T69 l0_2 x9_3).f0) : Int) := of_decide_eq_true (by first | (with_reducible assumption) | assumption); have q348 : ((rd_T69 l0_2 x9_3).f0) < (l1.length : Int) := of_decide_eq_true (by first | (with_reducible assumption) | assumption); obtain ⟨ad348, e348, hx348_0⟩ := Kd.at_int HR1.out ((rd_T69 l0_2 x9_3).f0) p348 q348; cases e348; have hn348_0 : ad348.block ≠ gb347 := Nat.ne_of_lt (Nat.lt_of_lt_of_le (by have := World.block_lt_of_cell? _ _ hx348_0; first | rwa [add_block] at this | exact this) GW347.out); have hn348_1 : ad348.block ≠ gb347 := Nat.ne_of_lt (Nat.lt_of_lt_of_le (by have := World.block_lt_of_cell? _ _ hx348_0; first | rwa [add_block] at this | exact this) GW347.out); have hn348_2 : ad348.block ≠ gb347 := Nat.ne_of_lt (Nat.lt_of_lt_of_le (by have := World.block_lt_of_cell? _ _ hx348_0; first | rwa [add_block] at this | exact this) GW347.out); replace hx348_0 := (HB.out.cell (World.block_lt_of_cell? w _ hx348_0)).trans hx348_0; replace hx348_0 := (cell_far (p := ⟨gb347, 0, none⟩) (by first | (rw [add_block]; exact hn348_0) | (show (Addr.add _ _).block ≠ _; rw [add_block]; exact hn348_0) | exact hn348_0) (.int .i64 ((rd_T69 l0_2 x9_3).f0))).trans hx348_0; replace hx348_0 := (cell_far (p := ⟨gb347, 1, none⟩) (by first | (rw [add_block]; exact hn348_1) | (show (Addr.add _ _).block ≠ _; rw [add_block]; exact hn348_1) | exact hn348_1) (.int .i64 ((rd_T69 l0_2 x9_3).f1))).trans hx348_0; replace hx348_0 := (cell_far (p := ⟨gb347, 2, none⟩) (by first | (rw [add_block]; exact hn348_2) | (show (Addr.add _ _).block ≠ _; rw [add_block]; exact hn348_2) | exact hn348_2) (.int .i64 ((rd_T69 l0_2 x9_3).f2))).trans hx348_0; (try have hy348_0 := fun (n_ : Nat) => (show (((((w19.drewN n_).setCell ⟨gb347, 0, none⟩ (.int .i64 ((rd_T69 l0_2 x9_3).f0))).setCell ⟨gb347, 1, none⟩ (.int .i64 ((rd_T69 l0_2 x9_3).f1))).setCell ⟨gb347, 2, none⟩ (.int .i64 ((rd_T69 l0_2 x9_3).f2)))).cell? _ = some _ from hx348_0)); clear hn348_0; clear hn348_1; clear hn348_2; replace p348 := eq_true p348; replace q348 := eq_true q348; have p349 : 0 ≤ (((rd_T69 l0_2 x9_3).f1) : Int) := of_decide_eq_true (by first | (with_reducible assumption) | assumption); have q349 : ((rd_T69 l0_2 x9_3).f1) < (l2.length : Int) := of_decide_eq_true (by first | (with_reducible assumption) | assumption); obtain ⟨ad349, e349, hx349_0⟩ := Kd.at_int HR2.out ((rd_T69 l0_2 x9_3).f1) p349 q349; cases e349; have hn349_0 : ad349.block ≠ gb347 := Nat.ne_of_lt (Nat.lt_of_lt_of_le (by have := World.block_lt_of_cell? _ _ hx349_0; first | rwa [add_block] at this | exact this) GW347.out); have hn349_1 : ad349.block ≠ gb347 := Nat.ne_of_lt (Nat.lt_of_lt_of_le (by have := World.block_lt_of_cell? _ _ hx349_0; first | rwa [add_block] at this | exact this) GW347.out); have hn349_2 : ad349.block ≠ gb347 := Nat.ne_of_lt (Nat.lt_of_lt_of_le (by have := World.block_lt_of_cell? _ _ hx349_0; first | rwa [add_block] at this | exact this) GW347.out); replace hx349_0 := (HB.out.cell (World.block_lt_of_cell? w _ hx349_0)).trans hx349_0; replace hx349_0 := (cell_far (p := ⟨gb347, 0, none⟩) (by first | (rw [add_block]; exact hn349_0) | (show (Addr.add _ _).block ≠ _; rw [add_block]; exact hn349_0) | exact hn349_0) (.int .i64 ((rd_T69 l0_2 x9_3).f0))).trans hx349_0; replace hx349_0 := (cell_far (p := ⟨gb347, 1, none⟩) (by first | (rw [add_block]; exact hn349_1) | (show (Addr.add _ _).block ≠ _; rw [add_block]; exact hn349_1) | exact hn349_1) (.int .i64 ((rd_T69 l0_2 x9_3).f1))).trans hx349_0; replace hx349_0 := (cell_far (p := ⟨gb347, 2, none⟩) (by first | (rw [add_block]; exact hn349_2) | (show (Addr.add _ _).block ≠ _; rw [add_block]; exact hn349_2) | exact hn349_2) (.int .i64 ((rd_T69 l0_2 x9_3).f2))).trans hx349_0; (try have hy349_0 := fun (n_ : Nat) => (show (((((w19.drewN n_).setCell ⟨gb347, 0, none⟩ (.int .i64 ((rd_T69 l0_2 x9_3).f0))).setCell ⟨gb347, 1, none⟩ (.int .i64 ((rd_T69 l0_2 x9_3).f1))).setCell ⟨gb347, 2, none⟩ (.int .i64 ((rd_T69 l0_2 x9_3).f2)))).cell? _ = some _ from hx349_0)); clear hn349_0; clear hn349_1; clear hn349_2; replace p349 := eq_true p349; replace q349 := eq_true q349)); try go_wp2_with (first | ((with_reducible refine gate_dst (N := 10) rfl ?_); refine box_event ?hg (N := 10) ?hd (cs := #[.int .i64 0, .int .i64 0, .int .i64 0]) (t := 69) ?hr ?_; (case hd => rfl); (case hg => rfl); (case hr => first | (go_simp; done) | (go_simp; rfl)); intro gb347 hg w19 hbox hb; have n0_ := Aside0.mk (blk_below (g := gb343) (o := .cells #[.int .i64 a0_0, .int .i64 a0_1, .slice (some ad346) l0_2.length c0_2] 24 (0, 0)) (by (with_reducible repeat (first | refine blk_drewN ?_ _ | refine blk_drew ?_ | refine blk_alloc ?_ _)); exact BK343.out) hb); have n1_ := Aside0.mk (below_step (by repeat (first | (with_reducible first | exact HB.out | apply below_alloc | apply pw_below_drewN | apply below_drew1 | refine below_set ?_ GE343.out) | exact HB.out)) hb); have n2_ := Aside0.mk (hbox); have n3_ := Aside0.mk ((by rw [hg]; exact (below_size (by repeat (first | (with_reducible first | exact HB.out | apply below_alloc | apply pw_below_drewN | apply below_drew1 | refine below_set ?_ GE343.out) | exact HB.out))) : w.heap.size ≤ gb347)); have n4_ := Aside0.mk ((by rw [hg]; exact (below_size (by repeat (first | (with_reducible first | exact HB.out | apply below_alloc | apply pw_below_drewN | apply below_drew1 | refine below_set ?_ GE343.out) | exact HB.out))) : w.heap.size ≤ gb347)); have n5_ := Aside0.mk ((by rw [hg]; exact Nat.ne_of_lt (blk_lt (g := gb343) (o := .cells #[.int .i64 a0_0, .int .i64 a0_1, .slice (some ad346) l0_2.length c0_2] 24 (0, 0)) (by (with_reducible repeat (first | refine blk_drewN ?_ _ | refine blk_drew ?_ | refine blk_alloc ?_ _)); exact BK343.out)) : gb343 ≠ gb347)); have n6_ := Aside0.mk ((by rw [hg]; exact Nat.ne_of_gt (blk_lt (g := gb343) (o := .cells #[.int .i64 a0_0, .int .i64 a0_1, .slice (some ad346) l0_2.length c0_2] 24 (0, 0)) (by (with_reducible repeat (first | refine blk_drewN ?_ _ | refine blk_drew ?_ | refine blk_alloc ?_ _)); exact BK343.out)) : gb347 ≠ gb343)); clear BK343; clear HB; have BK343 := n0_; have HB := n1_; have BK347 := n2_; have GW347 := n3_; have GE347 := n4_; have NB343_347 := n5_; have NB347_343 := n6_; clear n0_ n1_ n2_ n3_ n4_ n5_ n6_; clear hb hbox hg; have hnb20 := NB347_343.out; have hnc20 := NB343_347.out; have hcz21_0 : w19.cell? ⟨gb347, 0, none⟩ = some (.int .i64 0) := (blk_cell BK347.out 0).trans rfl; have hcz21_1 : w19.cell? ⟨gb347, 1, none⟩ = some (.int .i64 0) := (blk_cell BK347.out 1).trans rfl; have hcz21_2 : w19.cell? ⟨gb347, 2, none⟩ = some (.int .i64 0) := (blk_cell BK347.out 2).trans rfl; have hfz21_0 := blk_frozen BK347.out 0; have hfz21_1 := blk_frozen BK347.out 1; have hfz21_2 := blk_frozen BK347.out 2; have p348 : 0 ≤ (((rd_T69 l0_2 x9_3).f0) : Int) := of_decide_eq_true (by first | (with_reducible assumption) | assumption); have q348 : ((rd_T69 l0_2 x9_3).f0) < (l1.length : Int) := of_decide_eq_true (by first | (with_reducible assumption) | assumption); obtain ⟨ad348, e348, hx348_0⟩ := Kd.at_int HR1.out ((rd_T69 l0_2 x9_3).f0) p348 q348; cases e348; have hn348_0 : ad348.block ≠ gb347 := Nat.ne_of_lt (Nat.lt_of_lt_of_le (by have := World.block_lt_of_cell? _ _ hx348_0; first | rwa [add_block] at this | exact this) GW347.out); have hn348_1 : ad348.block ≠ gb347 := Nat.ne_of_lt (Nat.lt_of_lt_of_le (by have := World.block_lt_of_cell? _ _ hx348_0; first | rwa [add_block] at this | exact this) GW347.out); have hn348_2 : ad348.block ≠ gb347 := Nat.ne_of_lt (Nat.lt_of_lt_of_le (by have := World.block_lt_of_cell? _ _ hx348_0; first | rwa [add_block] at this | exact this) GW347.out); replace hx348_0 := (HB.out.cell (World.block_lt_of_cell? w _ hx348_0)).trans hx348_0; replace hx348_0 := (cell_far (p := ⟨gb347, 0, none⟩) (by first | (rw [add_block]; exact hn348_0) | (show (Addr.add _ _).block ≠ _; rw [add_block]; exact hn348_0) | exact hn348_0) (.int .i64 ((rd_T69 l0_2 x9_3).f0))).trans hx348_0; replace hx348_0 := (cell_far (p := ⟨gb347, 1, none⟩) (by first | (rw [add_block]; exact hn348_1) | (show (Addr.add _ _).block ≠ _; rw [add_block]; exact hn348_1) | exact hn348_1) (.int .i64 ((rd_T69 l0_2 x9_3).f1))).trans hx348_0; replace hx348_0 := (cell_far (p := ⟨gb347, 2, none⟩) (by first | (rw [add_block]; exact hn348_2) | (show (Addr.add _ _).block ≠ _; rw [add_block]; exact hn348_2) | exact hn348_2) (.int .i64 ((rd_T69 l0_2 x9_3).f2))).trans hx348_0; (try have hy348_0 := fun (n_ : Nat) => (show (((((w19.drewN n_).setCell ⟨gb347, 0, none⟩ (.int .i64 ((rd_T69 l0_2 x9_3).f0))).setCell ⟨gb347, 1, none⟩ (.int .i64 ((rd_T69 l0_2 x9_3).f1))).setCell ⟨gb347, 2, none⟩ (.int .i64 ((rd_T69 l0_2 x9_3).f2)))).cell? _ = some _ from hx348_0)); clear hn348_0; clear hn348_1; clear hn348_2; replace p348 := eq_true p348; replace q348 := eq_true q348; have p349 : 0 ≤ (((rd_T69 l0_2 x9_3).f1) : Int) := of_decide_eq_true (by first | (with_reducible assumption) | assumption); have q349 : ((rd_T69 l0_2 x9_3).f1) < (l2.length : Int) := of_decide_eq_true (by first | (with_reducible assumption) | assumption); obtain ⟨ad349, e349, hx349_0⟩ := Kd.at_int HR2.out ((rd_T69 l0_2 x9_3).f1) p349 q349; cases e349; have hn349_0 : ad349.block ≠ gb347 := Nat.ne_of_lt (Nat.lt_of_lt_of_le (by have := World.block_lt_of_cell? _ _ hx349_0; first | rwa [add_block] at this | exact this) GW347.out); have hn349_1 : ad349.block ≠ gb347 := Nat.ne_of_lt (Nat.lt_of_lt_of_le (by have := World.block_lt_of_cell? _ _ hx349_0; first | rwa [add_block] at this | exact this) GW347.out); have hn349_2 : ad349.block ≠ gb347 := Nat.ne_of_lt (Nat.lt_of_lt_of_le (by have := World.block_lt_of_cell? _ _ hx349_0; first | rwa [add_block] at this | exact this) GW347.out); replace hx349_0 := (HB.out.cell (World.block_lt_of_cell? w _ hx349_0)).trans hx349_0; replace hx349_0 := (cell_far (p := ⟨gb347, 0, none⟩) (by first | (rw [add_block]; exact hn349_0) | (show (Addr.add _ _).block ≠ _; rw [add_block]; exact hn349_0) | exact hn349_0) (.int .i64 ((rd_T69 l0_2 x9_3).f0))).trans hx349_0; replace hx349_0 := (cell_far (p := ⟨gb347, 1, none⟩) (by first | (rw [add_block]; exact hn349_1) | (show (Addr.add _ _).block ≠ _; rw [add_block]; exact hn349_1) | exact hn349_1) (.int .i64 ((rd_T69 l0_2 x9_3).f1))).trans hx349_0; replace hx349_0 := (cell_far (p := ⟨gb347, 2, none⟩) (by first | (rw [add_block]; exact hn349_2) | (show (Addr.add _ _).block ≠ _; rw [add_block]; exact hn349_2) | exact hn349_2) (.int .i64 ((rd_T69 l0_2 x9_3).f2))).trans hx349_0; (try have hy349_0 := fun (n_ : Nat) => (show (((((w19.drewN n_).setCell ⟨gb347, 0, none⟩ (.int .i64 ((rd_T69 l0_2 x9_3).f0))).setCell ⟨gb347, 1, none⟩ (.int .i64 ((rd_T69 l0_2 x9_3).f1))).setCell ⟨gb347, 2, none⟩ (.int .i64 ((rd_T69 l0_2 x9_3).f2)))).cell? _ = some _ from hx349_0)); clear hn349_0; clear hn349_1; clear hn349_2; replace p349 := eq_true p349; replace q349 := eq_true q349)))
                                go_ret
                                exact ⟨by first | rfl | (simp [errW_none, errW_some] <;> rfl) | (simp [*, errW_none, errW_some] <;> rfl), by repeat (first | (with_reducible first | exact HB.out | apply below_alloc | apply pw_below_drewN | apply below_drew1 | refine below_set ?_ GE343.out | refine below_set ?_ GE347.out) | exact HB.out)⟩
                              · rw [if_neg c17] at H
                                have c17b0 : decide ((rd l2 ((rd_T69 l0_2 x9_3).f1)) < (wrap64 (((rd_T69 l0_2 x9_3).f2) - (rd l1 ((rd_T69 l0_2 x9_3).f0))))) = false := decide_eq_false c17
                                clear c17
                                have H' := Aside0.mk H
                                clear H
                                have hcz22_0 : wr.cell? ⟨gb343, 0, none⟩ = some (.int .i64 a0_0) := (blk_cell BK343.out 0).trans rfl
                                have hcz22_1 : wr.cell? ⟨gb343, 1, none⟩ = some (.int .i64 a0_1) := (blk_cell BK343.out 1).trans rfl
                                have hcz22_2 : wr.cell? ⟨gb343, 2, none⟩ = some (.slice A0_2 l0_2.length c0_2) := (blk_cell BK343.out 2).trans rfl
                                have hfz22_0 := blk_frozen BK343.out 0
                                have hfz22_1 := blk_frozen BK343.out 1
                                have hfz22_2 := blk_frozen BK343.out 2
                                have p346 : 0 ≤ (x9_3 : Int) := of_decide_eq_true (by first | (with_reducible assumption) | assumption)
                                have q346 : x9_3 < (l0_2.length : Int) := of_decide_eq_true (by first | (with_reducible assumption) | assumption)
                                obtain ⟨ad346, e346, hx346_0, hx346_1, hx346_2⟩ := at_T69 HR0_2.out x9_3 p346 q346
                                cases e346
                                replace hx346_0 := (HB.out.cell (World.block_lt_of_cell? w _ hx346_0)).trans hx346_0
                                replace hx346_1 := (HB.out.cell (World.block_lt_of_cell? w _ hx346_1)).trans hx346_1
                                replace hx346_2 := (HB.out.cell (World.block_lt_of_cell? w _ hx346_2)).trans hx346_2
                                replace p346 := eq_true p346
                                replace q346 := eq_true q346
                                go_wp2_with (first | ((with_reducible refine gate_dst (N := 10) rfl ?_); refine box_event ?hg (N := 10) ?hd (cs := #[.int .i64 0, .int .i64 0, .int .i64 0]) (t := 69) ?hr ?_; (case hd => rfl); (case hg => rfl); (case hr => first | (go_simp; done) | (go_simp; rfl)); intro gb347 hg w23 hbox hb; have n0_ := Aside0.mk (blk_below (g := gb343) (o := .cells #[.int .i64 a0_0, .int .i64 a0_1, .slice (some ad346) l0_2.length c0_2] 24 (0, 0)) (by (with_reducible repeat (first | refine blk_drewN ?_ _ | refine blk_drew ?_ | refine blk_alloc ?_ _)); exact BK343.out) hb); have n1_ := Aside0.mk (below_step (by repeat (first | (with_reducible first | exact HB.out | apply below_alloc | apply pw_below_drewN | apply below_drew1 | refine below_set ?_ GE343.out) | exact HB.out)) hb); have n2_ := Aside0.mk (hbox); have n3_ := Aside0.mk ((by rw [hg]; exact (below_size (by repeat (first | (with_reducible first | exact HB.out | apply below_alloc | apply pw_below_drewN | apply below_drew1 | refine below_set ?_ GE343.out) | exact HB.out))) : w.heap.size ≤ gb347)); have n4_ := Aside0.mk ((by rw [hg]; exact (below_size (by repeat (first | (with_reducible first | exact HB.out | apply below_alloc | apply pw_below_drewN | apply below_drew1 | refine below_set ?_ GE343.out) | exact HB.out))) : w.heap.size ≤ gb347)); have n5_ := Aside0.mk ((by rw [hg]; exact Nat.ne_of_lt (blk_lt (g := gb343) (o := .cells #[.int .i64 a0_0, .int .i64 a0_1, .slice (some ad346) l0_2.length c0_2] 24 (0, 0)) (by (with_reducible repeat (first | refine blk_drewN ?_ _ | refine blk_drew ?_ | refine blk_alloc ?_ _)); exact BK343.out)) : gb343 ≠ gb347)); have n6_ := Aside0.mk ((by rw [hg]; exact Nat.ne_of_gt (blk_lt (g := gb343) (o := .cells #[.int .i64 a0_0, .int .i64 a0_1, .slice (some ad346) l0_2.length c0_2] 24 (0, 0)) (by (with_reducible repeat (first | refine blk_drewN ?_ _ | refine blk_drew ?_ | refine blk_alloc ?_ _)); exact BK343.out)) : gb347 ≠ gb343)); clear BK343; clear HB; have BK343 := n0_; have HB := n1_; have BK347 := n2_; have GW347 := n3_; have GE347 := n4_; have NB343_347 := n5_; have NB347_343 := n6_; clear n0_ n1_ n2_ n3_ n4_ n5_ n6_; clear hb hbox hg; have hnb24 := NB347_343.out; have hnc24 := NB343_347.out; have hcz25_0 : w23.cell? ⟨gb347, 0, none⟩ = some (.int .i64 0) := (blk_cell BK347.out 0).trans rfl; have hcz25_1 : w23.cell? ⟨gb347, 1, none⟩ = some (.int .i64 0) := (blk_cell BK347.out 1).trans rfl; have hcz25_2 : w23.cell? ⟨gb347, 2, none⟩ = some (.int .i64 0) := (blk_cell BK347.out 2).trans rfl; have hfz25_0 := blk_frozen BK347.out 0; have hfz25_1 := blk_frozen BK347.out 1; have hfz25_2 := blk_frozen BK347.out 2; have p348 : 0 ≤ (((rd_T69 l0_2 x9_3).f0) : Int) := of_decide_eq_true (by first | (with_reducible assumption) | assumption); have q348 : ((rd_T69 l0_2 x9_3).f0) < (l1.length : Int) := of_decide_eq_true (by first | (with_reducible assumption) | assumption); obtain ⟨ad348, e348, hx348_0⟩ := Kd.at_int HR1.out ((rd_T69 l0_2 x9_3).f0) p348 q348; cases e348; have hn348_0 : ad348.block ≠ gb347 := Nat.ne_of_lt (Nat.lt_of_lt_of_le (by have := World.block_lt_of_cell? _ _ hx348_0; first | rwa [add_block] at this | exact this) GW347.out); have hn348_1 : ad348.block ≠ gb347 := Nat.ne_of_lt (Nat.lt_of_lt_of_le (by have := World.block_lt_of_cell? _ _ hx348_0; first | rwa [add_block] at this | exact this) GW347.out); have hn348_2 : ad348.block ≠ gb347 := Nat.ne_of_lt (Nat.lt_of_lt_of_le (by have := World.block_lt_of_cell? _ _ hx348_0; first | rwa [add_block] at this | exact this) GW347.out); replace hx348_0 := (HB.out.cell (World.block_lt_of_cell? w _ hx348_0)).trans hx348_0; replace hx348_0 := (cell_far (p := ⟨gb347, 0, none⟩) (by first | (rw [add_block]; exact hn348_0) | (show (Addr.add _ _).block ≠ _; rw [add_block]; exact hn348_0) | exact hn348_0) (.int .i64 ((rd_T69 l0_2 x9_3).f0))).trans hx348_0; replace hx348_0 := (cell_far (p := ⟨gb347, 1, none⟩) (by first | (rw [add_block]; exact hn348_1) | (show (Addr.add _ _).block ≠ _; rw [add_block]; exact hn348_1) | exact hn348_1) (.int .i64 ((rd_T69 l0_2 x9_3).f1))).trans hx348_0; replace hx348_0 := (cell_far (p := ⟨gb347, 2, none⟩) (by first | (rw [add_block]; exact hn348_2) | (show (Addr.add _ _).block ≠ _; rw [add_block]; exact hn348_2) | exact hn348_2) (.int .i64 ((rd_T69 l0_2 x9_3).f2))).trans hx348_0; (try have hy348_0 := fun (n_ : Nat) => (show (((((w23.drewN n_).setCell ⟨gb347, 0, none⟩ (.int .i64 ((rd_T69 l0_2 x9_3).f0))).setCell ⟨gb347, 1, none⟩ (.int .i64 ((rd_T69 l0_2 x9_3).f1))).setCell ⟨gb347, 2, none⟩ (.int .i64 ((rd_T69 l0_2 x9_3).f2)))).cell? _ = some _ from hx348_0)); clear hn348_0; clear hn348_1; clear hn348_2; replace p348 := eq_true p348; replace q348 := eq_true q348; have p349 : 0 ≤ (((rd_T69 l0_2 x9_3).f1) : Int) := of_decide_eq_true (by first | (with_reducible assumption) | assumption); have q349 : ((rd_T69 l0_2 x9_3).f1) < (l2.length : Int) := of_decide_eq_true (by first | (with_reducible assumption) | assumption); obtain ⟨ad349, e349, hx349_0⟩ := Kd.at_int HR2.out ((rd_T69 l0_2 x9_3).f1) p349 q349; cases e349; have hn349_0 : ad349.block ≠ gb347 := Nat.ne_of_lt (Nat.lt_of_lt_of_le (by have := World.block_lt_of_cell? _ _ hx349_0; first | rwa [add_block] at this | exact this) GW347.out); have hn349_1 : ad349.block ≠ gb347 := Nat.ne_of_lt (Nat.lt_of_lt_of_le (by have := World.block_lt_of_cell? _ _ hx349_0; first | rwa [add_block] at this | exact this) GW347.out); have hn349_2 : ad349.block ≠ gb347 := Nat.ne_of_lt (Nat.lt_of_lt_of_le (by have := World.block_lt_of_cell? _ _ hx349_0; first | rwa [add_block] at this | exact this) GW347.out); replace hx349_0 := (HB.out.cell (World.block_lt_of_cell? w _ hx349_0)).trans hx349_0; replace hx349_0 := (cell_far (p := ⟨gb347, 0, none⟩) (by first | (rw [add_block]; exact hn349_0) | (show (Addr.add _ _).block ≠ _; rw [add_block]; exact hn349_0) | exact hn349_0) (.int .i64 ((rd_T69 l0_2 x9_3).f0))).trans hx349_0; replace hx349_0 := (cell_far (p := ⟨gb347, 1, none⟩) (by first | (rw [add_block]; exact hn349_1) | (show (Addr.add _ _).block ≠ _; rw [add_block]; exact hn349_1) | exact hn349_1) (.int .i64 ((rd_T69 l0_2 x9_3).f1))).trans hx349_0; replace hx349_0 := (cell_far (p := ⟨gb347, 2, none⟩) (by first | (rw [add_block]; exact hn349_2) | (show (Addr.add _ _).block ≠ _; rw [add_block]; exact hn349_2) | exact hn349_2) (.int .i64 ((rd_T69 l0_2 x9_3).f2))).trans hx349_0; (try have hy349_0 := fun (n_ : Nat) => (show (((((w23.drewN n_).setCell ⟨gb347, 0, none⟩ (.int .i64 ((rd_T69 l0_2 x9_3).f0))).setCell ⟨gb347, 1, none⟩ (.int .i64 ((rd_T69 l0_2 x9_3).f1))).setCell ⟨gb347, 2, none⟩ (.int .i64 ((rd_T69 l0_2 x9_3).f2)))).cell? _ = some _ from hx349_0)); clear hn349_0; clear hn349_1; clear hn349_2; replace p349 := eq_true p349; replace q349 := eq_true q349))
                                repeat (go_quiet (first | ((with_reducible refine gate_dst (N := 10) rfl ?_); refine box_event ?hg (N := 10) ?hd (cs := #[.int .i64 0, .int .i64 0, .int .i64 0]) (t := 69) ?hr ?_; (case hd => rfl); (case hg => rfl); (case hr => first | (go_simp; done) | (go_simp; rfl)); intro gb347 hg w23 hbox hb; have n0_ := Aside0.mk (blk_below (g := gb343) (o := .cells #[.int .i64 a0_0, .int .i64 a0_1, .slice (some ad346) l0_2.length c0_2] 24 (0, 0)) (by (with_reducible repeat (first | refine blk_drewN ?_ _ | refine blk_drew ?_ | refine blk_alloc ?_ _)); exact BK343.out) hb); have n1_ := Aside0.mk (below_step (by repeat (first | (with_reducible first | exact HB.out | apply below_alloc | apply pw_below_drewN | apply below_drew1 | refine below_set ?_ GE343.out) | exact HB.out)) hb); have n2_ := Aside0.mk (hbox); have n3_ := Aside0.mk ((by rw [hg]; exact (below_size (by repeat (first | (with_reducible first | exact HB.out | apply below_alloc | apply pw_below_drewN | apply below_drew1 | refine below_set ?_ GE343.out) | exact HB.out))) : w.heap.size ≤ gb347)); have n4_ := Aside0.mk ((by rw [hg]; exact (below_size (by repeat (first | (with_reducible first | exact HB.out | apply below_alloc | apply pw_below_drewN | apply below_drew1 | refine below_set ?_ GE343.out) | exact HB.out))) : w.heap.size ≤ gb347)); have n5_ := Aside0.mk ((by rw [hg]; exact Nat.ne_of_lt (blk_lt (g := gb343) (o := .cells #[.int .i64 a0_0, .int .i64 a0_1, .slice (some ad346) l0_2.length c0_2] 24 (0, 0)) (by (with_reducible repeat (first | refine blk_drewN ?_ _ | refine blk_drew ?_ | refine blk_alloc ?_ _)); exact BK343.out)) : gb343 ≠ gb347)); have n6_ := Aside0.mk ((by rw [hg]; exact Nat.ne_of_gt (blk_lt (g := gb343) (o := .cells #[.int .i64 a0_0, .int .i64 a0_1, .slice (some ad346) l0_2.length c0_2] 24 (0, 0)) (by (with_reducible repeat (first | refine blk_drewN ?_ _ | refine blk_drew ?_ | refine blk_alloc ?_ _)); exact BK343.out)) : gb347 ≠ gb343)); clear BK343; clear HB; have BK343 := n0_; have HB := n1_; have BK347 := n2_; have GW347 := n3_; have GE347 := n4_; have NB343_347 := n5_; have NB347_343 := n6_; clear n0_ n1_ n2_ n3_ n4_ n5_ n6_; clear hb hbox hg; have hnb24 := NB347_343.out; have hnc24 := NB343_347.out; have hcz25_0 : w23.cell? ⟨gb347, 0, none⟩ = some (.int .i64 0) := (blk_cell BK347.out 0).trans rfl; have hcz25_1 : w23.cell? ⟨gb347, 1, none⟩ = some (.int .i64 0) := (blk_cell BK347.out 1).trans rfl; have hcz25_2 : w23.cell? ⟨gb347, 2, none⟩ = some (.int .i64 0) := (blk_cell BK347.out 2).trans rfl; have hfz25_0 := blk_frozen BK347.out 0; have hfz25_1 := blk_frozen BK347.out 1; have hfz25_2 := blk_frozen BK347.out 2; have p348 : 0 ≤ (((rd_T69 l0_2 x9_3).f0) : Int) := of_decide_eq_true (by first | (with_reducible assumption) | assumption); have q348 : ((rd_T69 l0_2 x9_3).f0) < (l1.length : Int) := of_decide_eq_true (by first | (with_reducible assumption) | assumption); obtain ⟨ad348, e348, hx348_0⟩ := Kd.at_int HR1.out ((rd_T69 l0_2 x9_3).f0) p348 q348; cases e348; have hn348_0 : ad348.block ≠ gb347 := Nat.ne_of_lt (Nat.lt_of_lt_of_le (by have := World.block_lt_of_cell? _ _ hx348_0; first | rwa [add_block] at this | exact this) GW347.out); have hn348_1 : ad348.block ≠ gb347 := Nat.ne_of_lt (Nat.lt_of_lt_of_le (by have := World.block_lt_of_cell? _ _ hx348_0; first | rwa [add_block] at this | exact this) GW347.out); have hn348_2 : ad348.block ≠ gb347 := Nat.ne_of_lt (Nat.lt_of_lt_of_le (by have := World.block_lt_of_cell? _ _ hx348_0; first | rwa [add_block] at this | exact this) GW347.out); replace hx348_0 := (HB.out.cell (World.block_lt_of_cell? w _ hx348_0)).trans hx348_0; replace hx348_0 := (cell_far (p := ⟨gb347, 0, none⟩) (by first | (rw [add_block]; exact hn348_0) | (show (Addr.add _ _).block ≠ _; rw [add_block]; exact hn348_0) | exact hn348_0) (.int .i64 ((rd_T69 l0_2 x9_3).f0))).trans hx348_0; replace hx348_0 := (cell_far (p := ⟨gb347, 1, none⟩) (by first | (rw [add_block]; exact hn348_1) | (show (Addr.add _ _).block ≠ _; rw [add_block]; exact hn348_1) | exact hn348_1) (.int .i64 ((rd_T69 l0_2 x9_3).f1))).trans hx348_0; replace hx348_0 := (cell_far (p := ⟨gb347, 2, none⟩) (by first | (rw [add_block]; exact hn348_2) | (show (Addr.add _ _).block ≠ _; rw [add_block]; exact hn348_2) | exact hn348_2) (.int .i64 ((rd_T69 l0_2 x9_3).f2))).trans hx348_0; (try have hy348_0 := fun (n_ : Nat) => (show (((((w23.drewN n_).setCell ⟨gb347, 0, none⟩ (.int .i64 ((rd_T69 l0_2 x9_3).f0))).setCell ⟨gb347, 1, none⟩ (.int .i64 ((rd_T69 l0_2 x9_3).f1))).setCell ⟨gb347, 2, none⟩ (.int .i64 ((rd_T69 l0_2 x9_3).f2)))).cell? _ = some _ from hx348_0)); clear hn348_0; clear hn348_1; clear hn348_2; replace p348 := eq_true p348; replace q348 := eq_true q348; have p349 : 0 ≤ (((rd_T69 l0_2 x9_3).f1) : Int) := of_decide_eq_true (by first | (with_reducible assumption) | assumption); have q349 : ((rd_T69 l0_2 x9_3).f1) < (l2.length : Int) := of_decide_eq_true (by first | (with_reducible assumption) | assumption); obtain ⟨ad349, e349, hx349_0⟩ := Kd.at_int HR2.out ((rd_T69 l0_2 x9_3).f1) p349 q349; cases e349; have hn349_0 : ad349.block ≠ gb347 := Nat.ne_of_lt (Nat.lt_of_lt_of_le (by have := World.block_lt_of_cell? _ _ hx349_0; first | rwa [add_block] at this | exact this) GW347.out); have hn349_1 : ad349.block ≠ gb347 := Nat.ne_of_lt (Nat.lt_of_lt_of_le (by have := World.block_lt_of_cell? _ _ hx349_0; first | rwa [add_block] at this | exact this) GW347.out); have hn349_2 : ad349.block ≠ gb347 := Nat.ne_of_lt (Nat.lt_of_lt_of_le (by have := World.block_lt_of_cell? _ _ hx349_0; first | rwa [add_block] at this | exact this) GW347.out); replace hx349_0 := (HB.out.cell (World.block_lt_of_cell? w _ hx349_0)).trans hx349_0; replace hx349_0 := (cell_far (p := ⟨gb347, 0, none⟩) (by first | (rw [add_block]; exact hn349_0) | (show (Addr.add _ _).block ≠ _; rw [add_block]; exact hn349_0) | exact hn349_0) (.int .i64 ((rd_T69 l0_2 x9_3).f0))).trans hx349_0; replace hx349_0 := (cell_far (p := ⟨gb347, 1, none⟩) (by first | (rw [add_block]; exact hn349_1) | (show (Addr.add _ _).block ≠ _; rw [add_block]; exact hn349_1) | exact hn349_1) (.int .i64 ((rd_T69 l0_2 x9_3).f1))).trans hx349_0; replace hx349_0 := (cell_far (p := ⟨gb347, 2, none⟩) (by first | (rw [add_block]; exact hn349_2) | (show (Addr.add _ _).block ≠ _; rw [add_block]; exact hn349_2) | exact hn349_2) (.int .i64 ((rd_T69 l0_2 x9_3).f2))).trans hx349_0; (try have hy349_0 := fun (n_ : Nat) => (show (((((w23.drewN n_).setCell ⟨gb347, 0, none⟩ (.int .i64 ((rd_T69 l0_2 x9_3).f0))).setCell ⟨gb347, 1, none⟩ (.int .i64 ((rd_T69 l0_2 x9_3).f1))).setCell ⟨gb347, 2, none⟩ (.int .i64 ((rd_T69 l0_2 x9_3).f2)))).cell? _ = some _ from hx349_0)); clear hn349_0; clear hn349_1; clear hn349_2; replace p349 := eq_true p349; replace q349 := eq_true q349)); try go_wp2_with (first | ((with_reducible refine gate_dst (N := 10) rfl ?_); refine box_event ?hg (N := 10) ?hd (cs := #[.int .i64 0, .int .i64 0, .int .i64 0]) (t := 69) ?hr ?_; (case hd => rfl); (case hg => rfl); (case hr => first | (go_simp; done) | (go_simp; rfl)); intro gb347 hg w23 hbox hb; have n0_ := Aside0.mk (blk_below (g := gb343) (o := .cells #[.int .i64 a0_0, .int .i64 a0_1, .slice (some ad346) l0_2.length c0_2] 24 (0, 0)) (by (with_reducible repeat (first | refine blk_drewN ?_ _ | refine blk_drew ?_ | refine blk_alloc ?_ _)); exact BK343.out) hb); have n1_ := Aside0.mk (below_step (by repeat (first | (with_reducible first | exact HB.out | apply below_alloc | apply pw_below_drewN | apply below_drew1 | refine below_set ?_ GE343.out) | exact HB.out)) hb); have n2_ := Aside0.mk (hbox); have n3_ := Aside0.mk ((by rw [hg]; exact (below_size (by repeat (first | (with_reducible first | exact HB.out | apply below_alloc | apply pw_below_drewN | apply below_drew1 | refine below_set ?_ GE343.out) | exact HB.out))) : w.heap.size ≤ gb347)); have n4_ := Aside0.mk ((by rw [hg]; exact (below_size (by repeat (first | (with_reducible first | exact HB.out | apply below_alloc | apply pw_below_drewN | apply below_drew1 | refine below_set ?_ GE343.out) | exact HB.out))) : w.heap.size ≤ gb347)); have n5_ := Aside0.mk ((by rw [hg]; exact Nat.ne_of_lt (blk_lt (g := gb343) (o := .cells #[.int .i64 a0_0, .int .i64 a0_1, .slice (some ad346) l0_2.length c0_2] 24 (0, 0)) (by (with_reducible repeat (first | refine blk_drewN ?_ _ | refine blk_drew ?_ | refine blk_alloc ?_ _)); exact BK343.out)) : gb343 ≠ gb347)); have n6_ := Aside0.mk ((by rw [hg]; exact Nat.ne_of_gt (blk_lt (g := gb343) (o := .cells #[.int .i64 a0_0, .int .i64 a0_1, .slice (some ad346) l0_2.length c0_2] 24 (0, 0)) (by (with_reducible repeat (first | refine blk_drewN ?_ _ | refine blk_drew ?_ | refine blk_alloc ?_ _)); exact BK343.out)) : gb347 ≠ gb343)); clear BK343; clear HB; have BK343 := n0_; have HB := n1_; have BK347 := n2_; have GW347 := n3_; have GE347 := n4_; have NB343_347 := n5_; have NB347_343 := n6_; clear n0_ n1_ n2_ n3_ n4_ n5_ n6_; clear hb hbox hg; have hnb24 := NB347_343.out; have hnc24 := NB343_347.out; have hcz25_0 : w23.cell? ⟨gb347, 0, none⟩ = some (.int .i64 0) := (blk_cell BK347.out 0).trans rfl; have hcz25_1 : w23.cell? ⟨gb347, 1, none⟩ = some (.int .i64 0) := (blk_cell BK347.out 1).trans rfl; have hcz25_2 : w23.cell? ⟨gb347, 2, none⟩ = some (.int .i64 0) := (blk_cell BK347.out 2).trans rfl; have hfz25_0 := blk_frozen BK347.out 0; have hfz25_1 := blk_frozen BK347.out 1; have hfz25_2 := blk_frozen BK347.out 2; have p348 : 0 ≤ (((rd_T69 l0_2 x9_3).f0) : Int) := of_decide_eq_true (by first | (with_reducible assumption) | assumption); have q348 : ((rd_T69 l0_2 x9_3).f0) < (l1.length : Int) := of_decide_eq_true (by first | (with_reducible assumption) | assumption); obtain ⟨ad348, e348, hx348_0⟩ := Kd.at_int HR1.out ((rd_T69 l0_2 x9_3).f0) p348 q348; cases e348; have hn348_0 : ad348.block ≠ gb347 := Nat.ne_of_lt (Nat.lt_of_lt_of_le (by have := World.block_lt_of_cell? _ _ hx348_0; first | rwa [add_block] at this | exact this) GW347.out); have hn348_1 : ad348.block ≠ gb347 := Nat.ne_of_lt (Nat.lt_of_lt_of_le (by have := World.block_lt_of_cell? _ _ hx348_0; first | rwa [add_block] at this | exact this) GW347.out); have hn348_2 : ad348.block ≠ gb347 := Nat.ne_of_lt (Nat.lt_of_lt_of_le (by have := World.block_lt_of_cell? _ _ hx348_0; first | rwa [add_block] at this | exact this) GW347.out); replace hx348_0 := (HB.out.cell (World.block_lt_of_cell? w _ hx348_0)).trans hx348_0; replace hx348_0 := (cell_far (p := ⟨gb347, 0, none⟩) (by first | (rw [add_block]; exact hn348_0) | (show (Addr.add _ _).block ≠ _; rw [add_block]; exact hn348_0) | exact hn348_0) (.int .i64 ((rd_T69 l0_2 x9_3).f0))).trans hx348_0; replace hx348_0 := (cell_far (p := ⟨gb347, 1, none⟩) (by first | (rw [add_block]; exact hn348_1) | (show (Addr.add _ _).block ≠ _; rw [add_block]; exact hn348_1) | exact hn348_1) (.int .i64 ((rd_T69 l0_2 x9_3).f1))).trans hx348_0; replace hx348_0 := (cell_far (p := ⟨gb347, 2, none⟩) (by first | (rw [add_block]; exact hn348_2) | (show (Addr.add _ _).block ≠ _; rw [add_block]; exact hn348_2) | exact hn348_2) (.int .i64 ((rd_T69 l0_2 x9_3).f2))).trans hx348_0; (try have hy348_0 := fun (n_ : Nat) => (show (((((w23.drewN n_).setCell ⟨gb347, 0, none⟩ (.int .i64 ((rd_T69 l0_2 x9_3).f0))).setCell ⟨gb347, 1, none⟩ (.int .i64 ((rd_T69 l0_2 x9_3).f1))).setCell ⟨gb347, 2, none⟩ (.int .i64 ((rd_T69 l0_2 x9_3).f2)))).cell? _ = some _ from hx348_0)); clear hn348_0; clear hn348_1; clear hn348_2; replace p348 := eq_true p348; replace q348 := eq_true q348; have p349 : 0 ≤ (((rd_T69 l0_2 x9_3).f1) : Int) := of_decide_eq_true (by first | (with_reducible assumption) | assumption); have q349 : ((rd_T69 l0_2 x9_3).f1) < (l2.length : Int) := of_decide_eq_true (by first | (with_reducible assumption) | assumption); obtain ⟨ad349, e349, hx349_0⟩ := Kd.at_int HR2.out ((rd_T69 l0_2 x9_3).f1) p349 q349; cases e349; have hn349_0 : ad349.block ≠ gb347 := Nat.ne_of_lt (Nat.lt_of_lt_of_le (by have := World.block_lt_of_cell? _ _ hx349_0; first | rwa [add_block] at this | exact this) GW347.out); have hn349_1 : ad349.block ≠ gb347 := Nat.ne_of_lt (Nat.lt_of_lt_of_le (by have := World.block_lt_of_cell? _ _ hx349_0; first | rwa [add_block] at this | exact this) GW347.out); have hn349_2 : ad349.block ≠ gb347 := Nat.ne_of_lt (Nat.lt_of_lt_of_le (by have := World.block_lt_of_cell? _ _ hx349_0; first | rwa [add_block] at this | exact this) GW347.out); replace hx349_0 := (HB.out.cell (World.block_lt_of_cell? w _ hx349_0)).trans hx349_0; replace hx349_0 := (cell_far (p := ⟨gb347, 0, none⟩) (by first | (rw [add_block]; exact hn349_0) | (show (Addr.add _ _).block ≠ _; rw [add_block]; exact hn349_0) | exact hn349_0) (.int .i64 ((rd_T69 l0_2 x9_3).f0))).trans hx349_0; replace hx349_0 := (cell_far (p := ⟨gb347, 1, none⟩) (by first | (rw [add_block]; exact hn349_1) | (show (Addr.add _ _).block ≠ _; rw [add_block]; exact hn349_1) | exact hn349_1) (.int .i64 ((rd_T69 l0_2 x9_3).f1))).trans hx349_0; replace hx349_0 := (cell_far (p := ⟨gb347, 2, none⟩) (by first | (rw [add_block]; exact hn349_2) | (show (Addr.add _ _).block ≠ _; rw [add_block]; exact hn349_2) | exact hn349_2) (.int .i64 ((rd_T69 l0_2 x9_3).f2))).trans hx349_0; (try have hy349_0 := fun (n_ : Nat) => (show (((((w23.drewN n_).setCell ⟨gb347, 0, none⟩ (.int .i64 ((rd_T69 l0_2 x9_3).f0))).setCell ⟨gb347, 1, none⟩ (.int .i64 ((rd_T69 l0_2 x9_3).f1))).setCell ⟨gb347, 2, none⟩ (.int .i64 ((rd_T69 l0_2 x9_3).f2)))).cell? _ = some _ from hx349_0)); clear hn349_0; clear hn349_1; clear hn349_2; replace p349 := eq_true p349; replace q349 := eq_true q349)))
                                go_roundg k3
                                case measure => have := HK1.out; have := HK2.out; have := HK3.out; omega
                                case rel => exact ⟨(wrap64 (x9_3 + 1)), (by first | rfl | (simp; done) | (simp [*]; done)), H', ⟨by have := HK1.out; have := HK2.out; have := HK3.out; omega⟩, ⟨by (with_reducible repeat (first | refine blk_drewN ?_ _ | refine blk_drew ?_ | refine blk_alloc ?_ _)); refine blk_far ?_ NB343_347.out _; (with_reducible repeat (first | refine blk_drewN ?_ _ | refine blk_drew ?_ | refine blk_alloc ?_ _)); refine blk_far ?_ NB343_347.out _; (with_reducible repeat (first | refine blk_drewN ?_ _ | refine blk_drew ?_ | refine blk_alloc ?_ _)); refine blk_far ?_ NB343_347.out _; (with_reducible repeat (first | refine blk_drewN ?_ _ | refine blk_drew ?_ | refine blk_alloc ?_ _)); exact BK343.out⟩, ⟨by repeat (first | (with_reducible first | exact HB.out | apply below_alloc | apply pw_below_drewN | apply below_drew1 | refine below_set ?_ GE343.out | refine below_set ?_ GE347.out) | exact HB.out)⟩⟩
                            · rw [if_neg c16] at H
                              exact absurd H (by simp)
                          · rw [if_neg c15] at H
                            exact absurd H (by simp)
                        · rw [if_neg c14] at H
                          exact absurd H (by simp)
                      · rw [if_neg c13] at H
                        exact absurd H (by simp)
                    · rw [if_neg c12] at H
                      exact absurd H (by simp)
                  · rw [if_neg c11] at H
                    have c11b0 : decide (x9_3 < (l0_2.length : Int)) = false := decide_eq_false c11
                    clear c11
                    obtain rfl := Option.some.inj H
                    have hcz26_0 : wr.cell? ⟨gb343, 0, none⟩ = some (.int .i64 a0_0) := (blk_cell BK343.out 0).trans rfl
                    have hcz26_1 : wr.cell? ⟨gb343, 1, none⟩ = some (.int .i64 a0_1) := (blk_cell BK343.out 1).trans rfl
                    have hcz26_2 : wr.cell? ⟨gb343, 2, none⟩ = some (.slice A0_2 l0_2.length c0_2) := (blk_cell BK343.out 2).trans rfl
                    have hfz26_0 := blk_frozen BK343.out 0
                    have hfz26_1 := blk_frozen BK343.out 1
                    have hfz26_2 := blk_frozen BK343.out 2
                    go_wp2
                    repeat (go_quiet (fail); try go_wp2)
                    go_ret
                    exact ⟨by first | rfl | (simp [errW_none, errW_some] <;> rfl) | (simp [*, errW_none, errW_some] <;> rfl), by repeat (first | (with_reducible first | exact HB.out | apply below_alloc | apply pw_below_drewN | apply below_drew1 | refine below_set ?_ GE343.out) | exact HB.out)⟩

end Go.Proofs.Ytmdidgdcdlodlaa.Q
