/- What functions of the program answer, each by a Lean function and the proof of its call; written by this session's program gp.py and by hand. Conditions: those that stand in each theorem. -/
import Derived.Test.YtmdidgdcdlodlaaQ0
namespace Go.Proofs.Ytmdidgdcdlodlaa.Q
open Go.RowKit Go.Proofs.YtmdidgdcdlodlaaW.PrintWords Go.Proofs.YtmdidgdcdlodlaaW.PrintLast Go.Proofs.YtmdidgdcdlodlaaW.PrintMore
attribute [local go_sem] max2_int min2_int max_two min_two max_three min_three max_four min_four   -- for this text's walks alone
set_option linter.unusedVariables false
set_option linter.unusedSimpArgs false

/-! ### weigh_Check: function 27 -/
def bad0 (R C : Int) : Bool := decide (R < 0) || decide (R > 64) || decide (C < 0) || decide (C > 64)
def edgeIn (R C : Int) (e : S69) : Bool := decide (0 ≤ e.f0 ∧ e.f0 < R ∧ 0 ≤ e.f1 ∧ e.f1 < C ∧ 1 ≤ e.f2 ∧ e.f2 ≤ 1099513724929)
def edgeUp (r c : Int) (e : S69) : Bool := decide (r < e.f0 ∨ (r = e.f0 ∧ c < e.f1))
def edgesOK (R C : Int) : Int → Int → List S69 → Bool
  | _, _, [] => true
  | r, c, e :: es => edgeIn R C e && edgeUp r c e && edgesOK R C e.f0 e.f1 es
def weighC (R C : Int) (es : List S69) : Int := if bad0 R C || !edgesOK R C (-1) 0 es then 170 else 0
def weigh_Check.f (R C : Int) (es : List S69) : Option Int := if es.length ≤ 1152921504606846976 then some (weighC R C es) else none

theorem ret_i64 {a b : Int} (h : a = b) : Ending.returned (.int .i64 a) = .returned (.int .i64 b) := by rw [h]
theorem drop_T69 (l : List S69) (x : Int) (h0 : 0 ≤ x) (h1 : x < l.length) : l.drop x.toNat = rd_T69 l x :: l.drop (x + 1).toNat := by
  have h2 : x.toNat < l.length := by omega
  rw [List.drop_eq_getElem_cons h2]
  congr 1
  · simp [rd_T69, List.getD, h2]
  · congr 1; omega
theorem weigh_bad {R C lr lc : Int} {l : List S69} {x : Int} {r : Int} {b : Bool} {e : S69} (h0 : 0 ≤ x) (h1 : x < l.length) (he : e = rd_T69 l x) (hE : edgesOK R C (-1) 0 l = edgesOK R C lr lc (l.drop x.toNat))
    (hb : (edgeIn R C e && edgeUp lr lc e) = false) (h : (if b || !edgesOK R C (-1) 0 l then (170 : Int) else 0) = r) : Ending.returned (.int .i64 170) = .returned (.int .i64 r) := by
  rw [hE, drop_T69 l x h0 h1, ← he] at h
  simp only [edgesOK, hb, Bool.false_and, Bool.not_false, Bool.or_true, if_true] at h
  rw [h]
theorem weigh_good {R C lr lc : Int} {l : List S69} {x : Int} {e : S69} (h0 : 0 ≤ x) (h1 : x < l.length) (he : e = rd_T69 l x) (hE : edgesOK R C (-1) 0 l = edgesOK R C lr lc (l.drop x.toNat))
    (hb : (edgeIn R C e && edgeUp lr lc e) = true) : edgesOK R C (-1) 0 l = edgesOK R C e.f0 e.f1 (l.drop (x + 1).toNat) := by
  rw [hE, drop_T69 l x h0 h1, ← he]
  simp only [edgesOK, hb, Bool.true_and]
set_option maxHeartbeats 8000000 in
set_option maxRecDepth 100000 in
theorem weigh_Check.calls (a0_0 : Int) (a0_1 : Int) (A0_2 : Option Addr) (c0_2 : Nat) (l0_2 : List (S69)) (r : Int) (w : World) (hr0_2 : Kd.C k69 w A0_2 l0_2.length l0_2) (hc0_2 : l0_2.length ≤ c0_2) (h : weigh_Check.f a0_0 a0_1 l0_2 = some r) :
    Calls Try.prog 27 #[.agg #[.int .i64 a0_0, .int .i64 a0_1, .slice A0_2 l0_2.length c0_2]] w fun e w' => e = .returned (.int .i64 r) ∧ Below w.heap.size w w' := by
  have HR0 := Aside0.mk hr0_2
  have HC0 := Aside0.mk hc0_2
  have hlen : l0_2.length ≤ 1152921504606846976 := by
    unfold weigh_Check.f at h
    split at h
    · assumption
    · cases h
  have HLEN := Aside0.mk hlen
  replace h : (if bad0 a0_0 a0_1 || !edgesOK a0_0 a0_1 (-1) 0 l0_2 then (170 : Int) else 0) = r := by
    simpa [weigh_Check.f, hlen, weighC] using h
  clear hlen
  have H := Aside0.mk h
  clear hr0_2 hc0_2 h
  go_enter Try.func27, Try.ntmps27
  go_upto_region 1 with (fail)
  go_step3
  go_upto_region 1 with (fail)
  go_cut [3] (fun v3 wc => v3 = .bool (bad0 a0_0 a0_1) ∧ Aside0 (wc = w.alloc (.cells #[Value.int IntKind.i64 a0_0, Value.int IntKind.i64 a0_1, Value.slice A0_2 l0_2.length c0_2] 24)))
  case first =>
    go_wp2
    all_goals (go_wp2_with fail; go_meet; refine ⟨?_, ⟨rfl⟩⟩; simp [bad0]; try omega)
  case rest =>
    obtain ⟨rfl, HW⟩ := hcut
    obtain rfl := HW.out
    clear HW
    generalize bad0 a0_0 a0_1 = bb at *
    go_wp2
    go_step3
    go_wp2
    go_loopw [3, 29] (fun v3 v29 wr => ∃ x : Int, v29 = .int .i64 x ∧ v3 = .bool bb ∧ Aside0 (0 ≤ x) ∧ Aside0 (x ≤ l0_2.length)
     ∧ Aside0 (∃ lr lc lw, wr.heap[w.heap.size + 1]? = some (.cells #[.int .i64 lr, .int .i64 lc, .int .i64 lw] 69 (0, 0)) ∧ edgesOK a0_0 a0_1 (-1) 0 l0_2 = edgesOK a0_0 a0_1 lr lc (l0_2.drop x.toNat))
     ∧ Aside0 (wr.heap[w.heap.size]? = some (.cells #[.int .i64 a0_0, .int .i64 a0_1, .slice A0_2 l0_2.length c0_2] 24 (0, 0))) ∧ Aside0 (Below w.heap.size w wr))
    (fun _ v29 _ => l0_2.length - (intOf v29).toNat)
    case atStart => exact ⟨0, rfl, rfl, ⟨by omega⟩, ⟨by omega⟩, ⟨-1, 0, 0, by simpa using blk_new (w.alloc (.cells #[.int .i64 a0_0, .int .i64 a0_1, .slice A0_2 l0_2.length c0_2] 24)) _, by simp⟩, ⟨blk_alloc (blk_new _ _) _⟩, ⟨by repeat (first | exact Below.refl _ _ | apply below_alloc)⟩⟩
    case round =>
      obtain ⟨x, rfl, rfl, Hx0, Hx1, HL, BK, HB⟩ := hrel
      obtain ⟨lr, lc, lw, BL, HE⟩ := HL.out
      clear HL
      have BL := Aside0.mk BL
      have HE := Aside0.mk HE
      have hx0 := Hx0.out
      by_cases hlt : x < (l0_2.length : Int)
      · have hdec : decide (x < (l0_2.length : Int)) = true := decide_eq_true hlt
        have c0 : wr.cell? ⟨w.heap.size, 0, none⟩ = some (.int .i64 a0_0) := (blk_cell BK.out 0).trans rfl
        have c1 : wr.cell? ⟨w.heap.size, 1, none⟩ = some (.int .i64 a0_1) := (blk_cell BK.out 1).trans rfl
        have c2 : wr.cell? ⟨w.heap.size, 2, none⟩ = some (.slice A0_2 l0_2.length c0_2) := (blk_cell BK.out 2).trans rfl
        have p129 : 0 ≤ (x : Int) := hx0
        have p130 : x + 1 ≤ 1152921504606846976 := by have := HLEN.out; omega
        obtain ⟨ad, ead, h0, h1, h2⟩ := at_T69 HR0.out x hx0 hlt
        cases ead
        replace h0 := pw_cell_below HB.out h0
        replace h1 := pw_cell_below HB.out h1
        replace h2 := pw_cell_below HB.out h2
        obtain ⟨e, he⟩ : ∃ e, e = rd_T69 l0_2 x := ⟨_, rfl⟩
        rw [← he] at h0 h1 h2
        have HEE := Aside0.mk he
        clear he hdec
        have z0 : w.heap.size < wr.heap.size := blk_lt BK.out
        have z1 : w.heap.size + 1 < wr.heap.size := blk_lt BL.out
        have d0 : wr.cell? ⟨w.heap.size + 1, 0, none⟩ = some (.int .i64 lr) := (blk_cell BL.out 0).trans rfl
        have d1 : wr.cell? ⟨w.heap.size + 1, 1, none⟩ = some (.int .i64 lc) := (blk_cell BL.out 1).trans rfl
        have d2 : wr.cell? ⟨w.heap.size + 1, 2, none⟩ = some (.int .i64 lw) := (blk_cell BL.out 2).trans rfl
        have g0 := blk_frozen BL.out 0
        have g1 := blk_frozen BL.out 1
        have g2 := blk_frozen BL.out 2
        rcases (show (e.f0 < 0) ∨ (0 ≤ e.f0 ∧ a0_0 ≤ e.f0) ∨ (0 ≤ e.f0 ∧ e.f0 < a0_0 ∧ e.f1 < 0) ∨ (0 ≤ e.f0 ∧ e.f0 < a0_0 ∧ 0 ≤ e.f1 ∧ a0_1 ≤ e.f1) ∨ (0 ≤ e.f0 ∧ e.f0 < a0_0 ∧ 0 ≤ e.f1 ∧ e.f1 < a0_1 ∧ e.f2 < 1) ∨ (0 ≤ e.f0 ∧ e.f0 < a0_0 ∧ 0 ≤ e.f1 ∧ e.f1 < a0_1 ∧ 1 ≤ e.f2 ∧ 1099513724929 < e.f2) ∨ ((0 ≤ e.f0 ∧ e.f0 < a0_0 ∧ 0 ≤ e.f1 ∧ e.f1 < a0_1 ∧ 1 ≤ e.f2 ∧ e.f2 ≤ 1099513724929) ∧ e.f0 < lr) ∨ ((0 ≤ e.f0 ∧ e.f0 < a0_0 ∧ 0 ≤ e.f1 ∧ e.f1 < a0_1 ∧ 1 ≤ e.f2 ∧ e.f2 ≤ 1099513724929) ∧ lr ≤ e.f0) from by omega) with q | q | q | q | q | q | q | q
        iterate 6
          · go_wp2
            (try rw [Exit.noGoto_ret])
            go_ret
            exact ⟨weigh_bad hx0 hlt HEE.out HE.out (by simp [edgeIn]; omega) H.out, by repeat (first | exact HB.out | apply below_alloc)⟩
        · obtain ⟨qa, qb⟩ := q
          go_wp2
          (try rw [Exit.noGoto_ret])
          go_ret
          exact ⟨weigh_bad hx0 hlt HEE.out HE.out (by simp [edgeIn, edgeUp]; omega) H.out, by repeat (first | exact HB.out | apply below_alloc)⟩
        · obtain ⟨qa, qb⟩ := q
          by_cases hq : e.f0 = lr ∧ e.f1 ≤ lc
          · obtain ⟨q1, q2⟩ := hq
            have q1b : (e.f0 == lr) = true := beq_iff_eq.2 q1
            have Q1 := Aside0.mk q1
            clear q1
            go_wp2
            (try rw [Exit.noGoto_ret])
            go_ret
            have q1 := Q1.out
            exact ⟨weigh_bad hx0 hlt HEE.out HE.out (by simp [edgeIn, edgeUp]; omega) H.out, by repeat (first | exact HB.out | apply below_alloc)⟩
          · have hgood := weigh_good hx0 hlt HEE.out HE.out (by simp [edgeIn, edgeUp]; omega)
            have HG := Aside0.mk hgood
            clear hgood
            have HQ := Aside0.mk hq
            by_cases q1 : e.f0 = lr
            · have q1b : (e.f0 == lr) = true := beq_iff_eq.2 q1
              have q2 : lc < e.f1 := by have := HQ.out; omega
              clear q1 hq
              go_wp2
              go_roundw
              case rel => exact ⟨x + 1, by go_num, rfl, ⟨by omega⟩, ⟨by omega⟩, ⟨e.f0, e.f1, e.f2, blk_alloc (blk_put (blk_put (blk_put BL.out 0 _ rfl) 1 _ rfl) 2 _ rfl) _, HG.out⟩, ⟨blk_alloc (blk_far (blk_far (blk_far BK.out (Nat.ne_of_lt (Nat.lt_succ_self _)) _) (Nat.ne_of_lt (Nat.lt_succ_self _)) _) (Nat.ne_of_lt (Nat.lt_succ_self _)) _) _⟩, ⟨below_alloc (below_set (below_set (below_set HB.out (Nat.le_succ _)) (Nat.le_succ _)) (Nat.le_succ _)) _⟩⟩
              case measure => simp [intOf]; omega
            · have q1b : (e.f0 == lr) = false := beq_eq_false_iff_ne.2 q1
              clear q1 hq
              go_wp2
              go_roundw
              case rel => exact ⟨x + 1, by go_num, rfl, ⟨by omega⟩, ⟨by omega⟩, ⟨e.f0, e.f1, e.f2, blk_alloc (blk_put (blk_put (blk_put BL.out 0 _ rfl) 1 _ rfl) 2 _ rfl) _, HG.out⟩, ⟨blk_alloc (blk_far (blk_far (blk_far BK.out (Nat.ne_of_lt (Nat.lt_succ_self _)) _) (Nat.ne_of_lt (Nat.lt_succ_self _)) _) (Nat.ne_of_lt (Nat.lt_succ_self _)) _) _⟩, ⟨below_alloc (below_set (below_set (below_set HB.out (Nat.le_succ _)) (Nat.le_succ _)) (Nat.le_succ _)) _⟩⟩
              case measure => simp [intOf]; omega
      · have hdec : decide (x < (l0_2.length : Int)) = false := decide_eq_false hlt
        by_cases hbb : bb = true
        · subst hbb
          go_wp2
          (try rw [Exit.noGoto_ret])
          go_ret
          exact ⟨ret_i64 (by rw [← H.out]; simp), HB.out⟩
        · obtain rfl : bb = false := by simpa using hbb
          go_wp2
          (try rw [Exit.noGoto_ret])
          go_ret
          refine ⟨ret_i64 ?_, HB.out⟩
          have e1 : l0_2.drop x.toNat = [] := List.drop_eq_nil_of_le (by have := Hx1.out; omega)
          rw [← H.out, HE.out, e1]
          simp [edgesOK]

end Go.Proofs.Ytmdidgdcdlodlaa.Q
