/- What the document's own functions of prices and certificates answer, in plain lists. Conditions: those that stand in each theorem. Written in this session. -/
import Derived.Test.YtmdidgdcdlodlaaXRef
import Derived.Test.YtmdidgdcdlodlaaQ11
import Derived.Test.YtmdidgdcdlodlaaQ34
namespace Go.Proofs.Ytmdidgdcdlodlaa.Q
open Go.RowKit Go.Proofs.YtmdidgdcdlodlaaW.PrintWords Go.Proofs.YtmdidgdcdlodlaaW.PrintLast
set_option linter.unusedVariables false
theorem ref_hold2 (R C : Int) (es : List S69) (ys zs : List Int) (hn : es.length ≤ 1152921504606846976) (hy : ∀ p ∈ ys, 0 ≤ p ∧ p ≤ 9223372036854775807) (hr : inRange es ys zs) : ∀ m j k, j + m = es.length → m + 1 ≤ k →
    cabstandref18_Hold.l2 k ys zs (j : Int) R C es = some ((es.drop j).all (fun e => decide (e.f2 - rd ys e.f0 ≤ rd zs e.f1))) := by
  intro m
  induction m with
  | zero =>
    intro j k hj hk
    obtain ⟨k', rfl⟩ : ∃ k', k = k' + 1 := ⟨k - 1, by omega⟩
    rw [cabstandref18_Hold.l2, if_neg (by omega), List.drop_eq_nil_of_le (by omega)]
    rfl
  | succ m ih =>
    intro j k hj hk
    obtain ⟨k', rfl⟩ : ∃ k', k = k' + 1 := ⟨k - 1, by omega⟩
    have hjl : j < es.length := by omega
    have ihj := ih (j + 1) k' (by omega) (by omega)
    obtain ⟨h1, h2, h3, h4, h5, h6⟩ := hr _ (rdT_mem es (j : Int) (by omega) (by omega))
    have hyy := hy _ (rd_mem ys (rd_T69 es (j : Int)).f0 h1 h2)
    have e1 : wrap64 ((rd_T69 es (j : Int)).f2 - rd ys (rd_T69 es (j : Int)).f0) = (rd_T69 es (j : Int)).f2 - rd ys (rd_T69 es (j : Int)).f0 := by unfold wrap64; omega
    rw [dropE es j hjl, cabstandref18_Hold.l2, if_pos (by omega), if_pos (by omega), if_pos h1, if_pos h2, if_pos h3, if_pos h4, e1, w64 j (by omega), ihj]
    generalize rd_T69 es (j : Int) = e
    by_cases hc : e.f2 - rd ys e.f0 > rd zs e.f1
    · rw [if_pos hc, List.all_cons, decide_eq_false (by omega), Bool.false_and]
    · rw [if_neg hc, List.all_cons, decide_eq_true (by omega), Bool.true_and]
theorem ref_hold1 (R C : Int) (es : List S69) (ys zs : List Int) (hn : es.length ≤ 1152921504606846976) (hz : zs.length ≤ 1152921504606846976) (hy : ∀ p ∈ ys, 0 ≤ p ∧ p ≤ 9223372036854775807) (hr : inRange es ys zs) : ∀ m j k, j + m = zs.length → m + es.length + 2 ≤ k →
    cabstandref18_Hold.l1 k ys zs (j : Int) R C es = some ((zs.drop j).all (fun p => decide (0 ≤ p)) && es.all (fun e => decide (e.f2 - rd ys e.f0 ≤ rd zs e.f1))) := by
  intro m
  induction m with
  | zero =>
    intro j k hj hk
    obtain ⟨k', rfl⟩ : ∃ k', k = k' + 1 := ⟨k - 1, by omega⟩
    have h2 := ref_hold2 R C es ys zs hn hy hr es.length 0 k' (by omega) (by omega)
    rw [cabstandref18_Hold.l1, if_neg (by omega), List.drop_eq_nil_of_le (by omega)]
    exact h2
  | succ m ih =>
    intro j k hj hk
    obtain ⟨k', rfl⟩ : ∃ k', k = k' + 1 := ⟨k - 1, by omega⟩
    have hjl : j < zs.length := by omega
    have ihj := ih (j + 1) k' (by omega) (by omega)
    rw [dropI zs j hjl, cabstandref18_Hold.l1, if_pos (by omega), if_pos (by omega), w64 j (by omega), ihj, List.all_cons]
    by_cases hc : rd zs (j : Int) < 0
    · rw [if_pos hc, decide_eq_false (by omega), Bool.false_and, Bool.false_and]
    · rw [if_neg hc, decide_eq_true (by omega), Bool.true_and]
theorem ref_hold0 (R C : Int) (es : List S69) (ys zs : List Int) (hn : es.length ≤ 1152921504606846976) (hyl : ys.length ≤ 1152921504606846976) (hz : zs.length ≤ 1152921504606846976) (hy : ∀ p ∈ ys, p ≤ 9223372036854775807) (hr : inRange es ys zs) : ∀ m j k, j + m = ys.length → (∀ p ∈ ys.take j, 0 ≤ p) → m + zs.length + es.length + 3 ≤ k →
    cabstandref18_Hold.l0 k ys zs (j : Int) R C es = some ((ys.drop j).all (fun p => decide (0 ≤ p)) && (zs.all (fun p => decide (0 ≤ p)) && es.all (fun e => decide (e.f2 - rd ys e.f0 ≤ rd zs e.f1)))) := by
  intro m
  induction m with
  | zero =>
    intro j k hj hp hk
    obtain ⟨k', rfl⟩ : ∃ k', k = k' + 1 := ⟨k - 1, by omega⟩
    rw [List.take_of_length_le (by omega)] at hp
    have h2 := ref_hold1 R C es ys zs hn hz (fun p h => ⟨hp p h, hy p h⟩) hr zs.length 0 k' (by omega) (by omega)
    rw [cabstandref18_Hold.l0, if_neg (by omega), List.drop_eq_nil_of_le (by omega)]
    exact h2
  | succ m ih =>
    intro j k hj hp hk
    obtain ⟨k', rfl⟩ : ∃ k', k = k' + 1 := ⟨k - 1, by omega⟩
    have hjl : j < ys.length := by omega
    have e : ys[j] = rd ys (j : Int) := by simp [rd, List.getD, hjl]
    rw [dropI ys j hjl, cabstandref18_Hold.l0, if_pos (by omega), if_pos (by omega), w64 j (by omega), List.all_cons]
    by_cases hc : rd ys (j : Int) < 0
    · rw [if_pos hc, decide_eq_false (by omega), Bool.false_and, Bool.false_and]
    · rw [if_neg hc, decide_eq_true (by omega), Bool.true_and]
      refine ih (j + 1) k' (by omega) (fun p h => ?_) (by omega)
      rw [List.take_succ_eq_append_getElem hjl, List.mem_append] at h
      rcases h with h | h
      · exact hp p h
      · rw [List.mem_singleton.1 h, e]; omega
theorem ref_hold (R C : Int) (es : List S69) (ys zs : List Int) (hn : es.length ≤ 1152921504606846976) (hyl : ys.length ≤ 1152921504606846976) (hz : zs.length ≤ 1152921504606846976) (hy : ∀ p ∈ ys, p ≤ 9223372036854775807) (hr : inRange es ys zs) (k : Nat) (hk : ys.length + zs.length + es.length + 3 ≤ k) : cabstandref18_Hold.f k R C es ys zs = some (holdB es ys zs) := by
  have h := ref_hold0 R C es ys zs hn hyl hz hy hr ys.length 0 k (by omega) (by simp) (by omega)
  refine h.trans ?_
  unfold holdB
  rw [List.all_append, List.drop_zero, Bool.and_assoc]
theorem sum_end (acc : Int) (l : List Int) : (match sumL acc l with | some n => (n, true) | none => ((0 : Int), false)) = (match sumL acc l with | some n => (n, true) | none => (0, false)) := rfl
def endS (o : Option Int) : Int × Bool := match o with | some n => (n, true) | none => (0, false)
theorem ref_sum1 (zs : List Int) (hz : zs.length ≤ 1152921504606846976) (hp : ∀ p ∈ zs, 0 ≤ p) : ∀ m j k (acc : Int), j + m = zs.length → 0 ≤ acc → acc ≤ 4611686018427387903 → m + 1 ≤ k →
    cabstandref18_Sum.l1 k zs acc (j : Int) = some (endS (sumL acc (zs.drop j))) := by
  intro m
  induction m with
  | zero =>
    intro j k acc hj h0 h1 hk
    obtain ⟨k', rfl⟩ : ∃ k', k = k' + 1 := ⟨k - 1, by omega⟩
    rw [cabstandref18_Sum.l1, if_neg (by omega), List.drop_eq_nil_of_le (by omega)]
    rfl
  | succ m ih =>
    intro j k acc hj h0 h1 hk
    obtain ⟨k', rfl⟩ : ∃ k', k = k' + 1 := ⟨k - 1, by omega⟩
    have hjl : j < zs.length := by omega
    have hpp := hp _ (rd_mem zs (j : Int) (by omega) (by omega))
    have e1 : wrap64 (4611686018427387903 - acc) = 4611686018427387903 - acc := by unfold wrap64; omega
    rw [dropI zs j hjl, cabstandref18_Sum.l1, if_pos (by omega), if_pos (by omega), e1, w64 j (by omega), sumL]
    by_cases hc : rd zs (j : Int) > 4611686018427387903 - acc
    · rw [if_pos hc, if_pos hc]
      rfl
    · have e2 : wrap64 (acc + rd zs (j : Int)) = acc + rd zs (j : Int) := by unfold wrap64; omega
      rw [if_neg hc, if_neg hc, e2]
      exact ih (j + 1) k' _ (by omega) (by omega) (by omega) (by omega)
theorem ref_sum0 (ys zs : List Int) (hyl : ys.length ≤ 1152921504606846976) (hz : zs.length ≤ 1152921504606846976) (hp : ∀ p ∈ ys, 0 ≤ p) (hq : ∀ p ∈ zs, 0 ≤ p) : ∀ m j k (acc : Int), j + m = ys.length → 0 ≤ acc → acc ≤ 4611686018427387903 → m + zs.length + 2 ≤ k →
    cabstandref18_Sum.l0 k ys zs acc (j : Int) = some (endS (sumL acc (ys.drop j ++ zs))) := by
  intro m
  induction m with
  | zero =>
    intro j k acc hj h0 h1 hk
    obtain ⟨k', rfl⟩ : ∃ k', k = k' + 1 := ⟨k - 1, by omega⟩
    have h := ref_sum1 zs hz hq zs.length 0 k' acc (by omega) h0 h1 (by omega)
    rw [cabstandref18_Sum.l0, if_neg (by omega), List.drop_eq_nil_of_le (by omega)]
    exact h
  | succ m ih =>
    intro j k acc hj h0 h1 hk
    obtain ⟨k', rfl⟩ : ∃ k', k = k' + 1 := ⟨k - 1, by omega⟩
    have hjl : j < ys.length := by omega
    have hpp := hp _ (rd_mem ys (j : Int) (by omega) (by omega))
    have e1 : wrap64 (4611686018427387903 - acc) = 4611686018427387903 - acc := by unfold wrap64; omega
    rw [dropI ys j hjl, cabstandref18_Sum.l0, if_pos (by omega), if_pos (by omega), e1, w64 j (by omega), List.cons_append, sumL]
    by_cases hc : rd ys (j : Int) > 4611686018427387903 - acc
    · rw [if_pos hc, if_pos hc]
      rfl
    · have e2 : wrap64 (acc + rd ys (j : Int)) = acc + rd ys (j : Int) := by unfold wrap64; omega
      rw [if_neg hc, if_neg hc, e2]
      exact ih (j + 1) k' _ (by omega) (by omega) (by omega) (by omega)
theorem ref_sum (ys zs : List Int) (hyl : ys.length ≤ 1152921504606846976) (hz : zs.length ≤ 1152921504606846976) (hp : ∀ p ∈ ys, 0 ≤ p) (hq : ∀ p ∈ zs, 0 ≤ p) (k : Nat) (hk : ys.length + zs.length + 2 ≤ k) : cabstandref18_Sum.f k ys zs = some (clsum ys zs) := by
  have h := ref_sum0 ys zs hyl hz hp hq ys.length 0 k 0 (by omega) (by omega) (by omega) (by omega)
  refine h.trans ?_
  rw [List.drop_zero]
  unfold clsum endS
  cases sumL 0 (ys ++ zs) <;> rfl
theorem in_range {R C : Int} {es : List S69} {ys zs : List Int} (hg : Good R C es) (h1 : (ys.length : Int) = R) (h2 : (zs.length : Int) = C) : inRange es ys zs := fun e he => by
  obtain ⟨q1, q2, q3, q4, q5, q6⟩ := hg.inn e he
  exact ⟨q1, by omega, q3, by omega, q5, q6⟩
theorem r_holdB_is {es : List S69} {ys zs : List Int} (h : holdB es ys zs = true) : (∀ p ∈ ys, 0 ≤ p) ∧ (∀ p ∈ zs, 0 ≤ p) ∧ ∀ e ∈ es, e.f2 - rd ys e.f0 ≤ rd zs e.f1 := by
  simp only [holdB, Bool.and_eq_true, List.all_eq_true, decide_eq_true_eq, List.mem_append] at h
  exact ⟨fun p hp => h.1 p (Or.inl hp), fun p hp => h.1 p (Or.inr hp), h.2⟩
theorem r_dualC_zero {es : List S69} {ys zs : List Int} : dualC es ys zs = 0 ↔ holdB es ys zs = true := by
  unfold dualC
  split <;> simp_all
theorem ref_bound (R C : Int) (es : List S69) (ys zs : List Int) (hn : es.length ≤ 1152921504606846976) (hyl : ys.length ≤ 1152921504606846976) (hz : zs.length ≤ 1152921504606846976) (hy : ∀ p ∈ ys, p ≤ 9223372036854775807) (k : Nat) (hk : ys.length + zs.length + 2 * es.length + 4 ≤ k) : cabstandref18_Bound.f k R C es ys zs = some (boundC R C es ys zs) := by
  unfold cabstandref18_Bound.f
  rw [ref_check R C es hn k (by omega), Option.bind_some]
  by_cases h : weighC R C es = 0
  · rw [if_pos h]
    obtain ⟨k', rfl⟩ : ∃ k', k = k' + 1 := ⟨k - 1, by omega⟩
    unfold boundC
    by_cases h1 : (ys.length : Int) = R
    · rw [if_pos h1]
      by_cases h2 : (zs.length : Int) = C
      · have hl : lengthsC R C ys zs = 0 := by unfold lengthsC; rw [if_pos h1, if_pos h2]
        have hb : ((zs.length : Int) != C) = false := by simp [h2]
        rw [hb, cabstandref18_Bound.j0, if_neg (by simp), ref_hold R C es ys zs hn hyl hz hy (in_range (good_of h) h1 h2) k' (by omega), Option.bind_some, h, hl]
        by_cases hh : holdB es ys zs = true
        · have hd : dualC es ys zs = 0 := r_dualC_zero.2 hh
          obtain ⟨p1, p2, _⟩ := r_holdB_is hh
          rw [if_pos hh, ref_sum ys zs hyl hz p1 p2 k' (by omega), Option.bind_some, hd, if_pos (show firstOf [0, 0, 0] = 0 from rfl)]
          cases (clsum ys zs).2 <;> simp
        · have hd : dualC es ys zs = 181 := by unfold dualC; rw [if_neg hh]
          rw [if_neg hh, hd]
          rfl
      · have hl : lengthsC R C ys zs = 1 := by unfold lengthsC; rw [if_pos h1, if_neg h2]
        have hb : ((zs.length : Int) != C) = true := by simp [h2]
        rw [hb, cabstandref18_Bound.j0, if_pos rfl, h, hl]
        rfl
    · have hl : lengthsC R C ys zs = 1 := by unfold lengthsC; rw [if_neg h1]
      rw [if_neg h1, cabstandref18_Bound.j0, if_pos rfl, h, hl]
      rfl
  · rw [if_neg h]
    unfold boundC
    have : firstOf [weighC R C es, lengthsC R C ys zs, dualC es ys zs] = weighC R C es := by simp [firstOf, h]
    rw [this, if_neg h]
theorem bounds_alike (R C : Int) (es : List S69) (ys zs : List Int) (hy : ∀ p ∈ ys, p ≤ 9223372036854775807) (h1 : es.length ≤ 1048576) (h2 : ys.length ≤ 1048576) (h3 : zs.length ≤ 1048576) : ∃ k r e, cert_Bound.f R C es ys zs = some (r, e) ∧ cabstandref18_Bound.f k R C es ys zs = some (r, e) := by
  refine ⟨_, (boundC R C es ys zs).1, (boundC R C es ys zs).2, ?_, ref_bound R C es ys zs (by omega) (by omega) (by omega) hy _ (Nat.le_refl _)⟩
  unfold cert_Bound.f
  rw [if_pos ⟨by omega, by simp, by omega, by omega, hy⟩]
end Go.Proofs.Ytmdidgdcdlodlaa.Q
