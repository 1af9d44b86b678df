/- What certificates say of matchings, in plain lists: the sum of prices bounds every matching's worth; the program's own sums. No condition beyond those that stand in each theorem. Written in this session. -/
import Derived.Test.YtmdidgdcdlodlaaQ11
import Derived.Test.YtmdidgdcdlodlaaQ13
import Derived.Test.YtmdidgdcdlodlaaQ14
namespace Go.Proofs.Ytmdidgdcdlodlaa.Q
open Go.RowKit Go.Proofs.YtmdidgdcdlodlaaW.PrintWords Go.Proofs.YtmdidgdcdlodlaaW.PrintLast
set_option linter.unusedVariables false

theorem alive_is : cabstandlaw18_alive.f = some true := by decide +kernel

/-! sums -/
theorem sumL_is : ∀ (l : List Int) (n m : Int), sumL n l = some m → m = n + l.sum
  | [], n, m, h => by simp [sumL] at h; simp [h]
  | p :: l, n, m, h => by
    simp only [sumL] at h
    split at h
    · cases h
    · have := sumL_is l _ _ h
      simp only [List.sum_cons]
      omega
theorem sumL_le : ∀ (l : List Int) (n m : Int), (∀ p ∈ l, 0 ≤ p) → 0 ≤ n → n ≤ 4611686018427387903 → sumL n l = some m → 0 ≤ m ∧ m ≤ 4611686018427387903
  | [], n, m, _, h0, h1, h => by simp [sumL] at h; omega
  | p :: l, n, m, hp, h0, h1, h => by
    simp only [sumL] at h
    have := hp p (by simp)
    split at h
    · cases h
    · exact sumL_le l _ _ (fun q hq => hp q (by simp [hq])) (by omega) (by omega) h
theorem sumL_some : ∀ (l : List Int) (n : Int), (∀ p ∈ l, 0 ≤ p) → n + l.sum ≤ 4611686018427387903 → sumL n l = some (n + l.sum)
  | [], n, _, _ => by simp [sumL]
  | p :: l, n, hp, h => by
    simp only [List.sum_cons] at h ⊢
    have h0 : 0 ≤ l.sum := by
      have : ∀ l : List Int, (∀ p ∈ l, 0 ≤ p) → 0 ≤ l.sum := by
        intro l
        induction l with
        | nil => intro _; simp
        | cons q l ih => intro hq; have := hq q (by simp); have := ih (fun r hr => hq r (by simp [hr])); simp only [List.sum_cons]; omega
      exact this l (fun q hq => hp q (by simp [hq]))
    simp only [sumL]
    rw [if_neg (by omega), sumL_some l _ (fun q hq => hp q (by simp [hq])) (by omega)]
    congr 1
    omega
theorem clsum_true {ys zs : List Int} {n : Int} (h : clsum ys zs = (n, true)) : sumL 0 (ys ++ zs) = some n := by
  unfold clsum at h
  split at h
  · rename_i m hm
    cases h
    exact hm
  · cases h
theorem sum_nonneg : ∀ (l : List Int), (∀ p ∈ l, 0 ≤ p) → 0 ≤ l.sum
  | [], _ => by simp
  | q :: l, h => by
    have := h q (by simp)
    have := sum_nonneg l (fun r hr => h r (by simp [hr]))
    simp only [List.sum_cons]
    omega
theorem rd_nonneg {l : List Int} (h : ∀ p ∈ l, 0 ≤ p) (i : Int) : 0 ≤ rd l i := by
  unfold rd
  by_cases hi : i.toNat < l.length
  · simp [List.getD, hi]
    exact h _ (List.getElem_mem hi)
  · simp [List.getD, hi]
theorem sum_set (l : List Int) (i : Nat) (h : i < l.length) : (l.set i 0).sum + l.getD i 0 = l.sum := by
  induction l generalizing i with
  | nil => simp at h
  | cons a l ih =>
    cases i with
    | zero => simp; omega
    | succ i =>
      have := ih i (by simpa using h)
      simp only [List.set_cons_succ, List.sum_cons, List.getD_cons_succ]
      omega
/-- different places of a list are together no more than all -/
theorem places_le : ∀ (is : List Int) (l : List Int), (∀ p ∈ l, 0 ≤ p) → is.Nodup → (∀ i ∈ is, 0 ≤ i ∧ i < l.length) → (is.map (rd l)).sum ≤ l.sum
  | [], l, h, _, _ => by simpa using sum_nonneg l h
  | i :: is, l, h, hn, hi => by
    obtain ⟨h1, h2⟩ := List.nodup_cons.1 hn
    obtain ⟨i0, i1⟩ := hi i (by simp)
    have hs := sum_set l i.toNat (by omega)
    have ih := places_le is (l.set i.toNat 0) (fun p hp => by
      rcases List.mem_or_eq_of_mem_set hp with h3 | h3
      · exact h p h3
      · omega) h2 (fun j hj => by rw [List.length_set]; exact hi j (by simp [hj]))
    have he : is.map (rd (l.set i.toNat 0)) = is.map (rd l) := by
      refine List.map_congr_left (fun j hj => ?_)
      have hne : i.toNat ≠ j.toNat := by
        intro e
        have := (hi j (by simp [hj])).1
        have : i = j := by omega
        exact h1 (this ▸ hj)
      unfold rd
      simp [List.getD, hne]
    rw [he] at ih
    simp only [List.map_cons, List.sum_cons]
    have : rd l i = l.getD i.toNat 0 := rfl
    omega
/-! what pairs of a matching are -/
theorem pairs_rows {es : List S69} : ∀ (ps : List S50) (lst : Int) (tk : List Int), pairsB es lst tk ps = true → (∀ p ∈ ps, lst < p.f0) ∧ (ps.map (·.f0)).Nodup ∧ (∀ p ∈ ps, p.f1 ∉ tk) ∧ (ps.map (·.f1)).Nodup
  | [], _, _, _ => by simp
  | p :: ps, lst, tk, h => by
    simp only [pairsB, Bool.and_eq_true, decide_eq_true_eq, bne_iff_ne, Bool.not_eq_true', List.contains_eq_mem, decide_eq_false_iff_not] at h
    obtain ⟨⟨⟨h1, h2⟩, h3⟩, h4⟩ := h
    obtain ⟨a, b, c, d⟩ := pairs_rows ps _ _ h4
    refine ⟨?_, ?_, ?_, ?_⟩
    · intro q hq
      rcases List.mem_cons.1 hq with rfl | hq
      · exact h1
      · have := a q hq; omega
    · simp only [List.map_cons, List.nodup_cons]
      refine ⟨fun hm => ?_, b⟩
      obtain ⟨q, hq, he⟩ := List.mem_map.1 hm
      have := a q hq
      omega
    · intro q hq
      rcases List.mem_cons.1 hq with rfl | hq
      · exact h3
      · exact fun hm => c q hq (by simp [hm])
    · simp only [List.map_cons, List.nodup_cons]
      refine ⟨fun hm => ?_, d⟩
      obtain ⟨q, hq, he⟩ := List.mem_map.1 hm
      exact c q hq (by simp [he])
theorem holdB_is {es : List S69} {ys zs : List Int} (h : holdB es ys zs = true) : (∀ p ∈ ys, 0 ≤ p) ∧ (∀ p ∈ zs, 0 ≤ p) ∧ ∀ e ∈ es, e.f2 - rd ys e.f0 ≤ rd zs e.f1 := by
  simp only [holdB, Bool.and_eq_true, List.all_eq_true, decide_eq_true_eq, List.mem_append] at h
  exact ⟨fun p hp => h.1 p (Or.inl hp), fun p hp => h.1 p (Or.inr hp), h.2⟩
theorem worth_le_prices {es : List S69} {ys zs : List Int} (h : ∀ e ∈ es, e.f2 - rd ys e.f0 ≤ rd zs e.f1) : ∀ (ps : List S50), (∀ p ∈ ps, wt es p.f0 p.f1 ≠ 0) →
    worthP es ps ≤ ((ps.map (·.f0)).map (rd ys)).sum + ((ps.map (·.f1)).map (rd zs)).sum
  | [], _ => by simp [worthP]
  | p :: ps, hp => by
    have ih := worth_le_prices h ps (fun q hq => hp q (by simp [hq]))
    obtain ⟨e, he, e0, e1, e2⟩ := wt_ne (hp p (by simp))
    have := h e he
    simp only [worthP, List.map_cons, List.sum_cons]
    rw [e0, e1, e2] at this
    omega
/-- weak duality -/
theorem weak {R C : Int} {es : List S69} {ys zs : List Int} (hg : Good R C es) (hl : lengthsC R C ys zs = 0) (hh : holdB es ys zs = true) {ps : List S50} (hp : pairsB es (-1) [] ps = true) :
    worthP es ps ≤ ys.sum + zs.sum := by
  obtain ⟨l1, l2⟩ := lengthsC_zero hl
  obtain ⟨h1, h2, h3⟩ := holdB_is hh
  obtain ⟨a, b, c, d⟩ := pairs_rows ps _ _ hp
  have hin := pairs_in ps _ _ hp
  have hmem : ∀ p ∈ ps, 0 ≤ p.f0 ∧ p.f0 < R ∧ 0 ≤ p.f1 ∧ p.f1 < C := by
    intro p hq
    obtain ⟨e, he, e0, e1, _⟩ := wt_ne (hin p hq)
    have := hg.inn e he
    omega
  have w1 := worth_le_prices h3 ps hin
  have w2 := places_le (ps.map (·.f0)) ys h1 b (fun i hi => by obtain ⟨p, hq, rfl⟩ := List.mem_map.1 hi; have := hmem p hq; omega)
  have w3 := places_le (ps.map (·.f1)) zs h2 d (fun i hi => by obtain ⟨p, hq, rfl⟩ := List.mem_map.1 hi; have := hmem p hq; omega)
  omega
/-! the statements' own sum -/
theorem worth_cons (es : List S69) (p : S50) (ps : List S50) : worthP es (p :: ps) = wt es p.f0 p.f1 + worthP es ps := rfl
/-- what the inner loop adds from a place on -/
def addAt (es : List S69) (r c : Int) : Int := (es.map (fun e => if e.f0 = r ∧ e.f1 = c then e.f2 else 0)).sum
theorem addAt_cons (e : S69) (es : List S69) (r c : Int) : addAt (e :: es) r c = (if e.f0 = r ∧ e.f1 = c then e.f2 else 0) + addAt es r c := by simp [addAt]
theorem addAt_none {es : List S69} {r c : Int} (h : ∀ e ∈ es, ¬ (e.f0 = r ∧ e.f1 = c)) : addAt es r c = 0 := by
  induction es with
  | nil => rfl
  | cons e es ih => rw [addAt_cons, if_neg (h e (by simp)), ih (fun x hx => h x (by simp [hx]))]; rfl
theorem addAt_wt {es : List S69} (hr : Rise es) (r c : Int) : addAt es r c = wt es r c := by
  induction es with
  | nil => rfl
  | cons e es ih =>
    obtain ⟨h1, h2⟩ := List.pairwise_cons.1 hr
    rw [addAt_cons]
    simp only [wt]
    by_cases q : e.f0 = r ∧ e.f1 = c
    · rw [if_pos q, if_pos q, addAt_none (fun x hx hq => by have := h1 x hx; unfold edgeLt at this; omega)]
      omega
    · rw [if_neg q, if_neg q, ih h2]
      omega
theorem addAt_bound {R C : Int} {es : List S69} (hg : Good R C es) (i : Nat) (r c : Int) : 0 ≤ addAt (es.drop i) r c ∧ addAt (es.drop i) r c ≤ 1099513724929 := by
  have hr : Rise (es.drop i) := hg.rise.drop
  rw [addAt_wt hr]
  by_cases h : wt (es.drop i) r c = 0
  · omega
  · obtain ⟨e, he, _, _, e2⟩ := wt_ne h
    have := hg.inn e (List.mem_of_mem_drop he)
    omega
theorem worth_inner {R C : Int} {es : List S69} (hg : Good R C es) (hn : es.length ≤ 1152921504606846976) (a b : Int) (l : List S50) (i : Int) (h0 : 0 ≤ i) (h1 : i < l.length) (d : Nat) : ∀ (k : Nat) (acc j : Int), 0 ≤ j → j + d = es.length → 0 ≤ acc → acc + addAt (es.drop j.toNat) (rd_T50 l i).f0 (rd_T50 l i).f1 ≤ 4611686018427387903 → d < k →
    cabstandlaw18_worth.l1 k l acc i j a b es = cabstandlaw18_worth.l0 (k - d - 1) l (acc + addAt (es.drop j.toNat) (rd_T50 l i).f0 (rd_T50 l i).f1) (wrap64 (i + 1)) a b es := by
  induction d with
  | zero =>
    intro k acc j j0 jd ha hb hk
    obtain ⟨k, rfl⟩ : ∃ m, k = m + 1 := ⟨k - 1, by omega⟩
    simp only [cabstandlaw18_worth.l1]
    rw [if_neg (by omega), List.drop_eq_nil_of_le (by omega)]
    simp [addAt]
  | succ d ih =>
    intro k acc j j0 jd ha hb hk
    obtain ⟨k, rfl⟩ : ∃ m, k = m + 1 := ⟨k - 1, by omega⟩
    simp only [cabstandlaw18_worth.l1]
    have hj : j < (es.length : Int) := by omega
    have e2 : wrap64 (j + 1) = j + 1 := by unfold wrap64; omega
    rw [if_pos hj, if_pos j0, if_pos h0, if_pos h1, e2]
    rw [drop_T69 es j j0 hj, addAt_cons] at hb ⊢
    have hin := hg.inn _ (rdT_mem es j j0 hj)
    have hab := addAt_bound hg (j + 1).toNat (rd_T50 l i).f0 (rd_T50 l i).f1
    by_cases q1 : (rd_T69 es j).f0 = (rd_T50 l i).f0
    · rw [if_pos q1]
      by_cases q2 : (rd_T69 es j).f1 = (rd_T50 l i).f1
      · rw [if_pos q2]
        rw [if_pos ⟨q1, q2⟩] at hb ⊢
        have e3 : wrap64 (acc + (rd_T69 es j).f2) = acc + (rd_T69 es j).f2 := by unfold wrap64; omega
        rw [e3, ih k _ (j + 1) (by omega) (by omega) (by omega) (by omega) (by omega), Int.add_assoc]
        congr 1
        omega
      · rw [if_neg q2]
        rw [if_neg (fun h : (rd_T69 es j).f0 = (rd_T50 l i).f0 ∧ (rd_T69 es j).f1 = (rd_T50 l i).f1 => q2 h.2)] at hb ⊢
        rw [ih k _ (j + 1) (by omega) (by omega) (by omega) (by omega) (by omega), Int.zero_add]
        congr 1
        omega
    · rw [if_neg q1]
      rw [if_neg (fun h : (rd_T69 es j).f0 = (rd_T50 l i).f0 ∧ (rd_T69 es j).f1 = (rd_T50 l i).f1 => q1 h.1)] at hb ⊢
      rw [ih k _ (j + 1) (by omega) (by omega) (by omega) (by omega) (by omega), Int.zero_add]
      congr 1
      omega
theorem worth_outer {R C : Int} {es : List S69} (hg : Good R C es) (hn : es.length ≤ 1152921504606846976) (a b : Int) (l : List S50) (hl : l.length ≤ 64) (d : Nat) : ∀ (k : Nat) (acc i : Int), 0 ≤ i → i + d = l.length → 0 ≤ acc → acc ≤ i * 1099513724929 → d * (es.length + 2) < k →
    cabstandlaw18_worth.l0 k l acc i a b es = some (acc + worthP es (l.drop i.toNat)) := by
  induction d with
  | zero =>
    intro k acc i h0 h1 ha hb hk
    obtain ⟨k, rfl⟩ : ∃ m, k = m + 1 := ⟨k - 1, by omega⟩
    simp only [cabstandlaw18_worth.l0]
    rw [if_neg (by omega), List.drop_eq_nil_of_le (by omega)]
    simp [worthP]
  | succ d ih =>
    intro k acc i h0 h1 ha hb hk
    have hk' : d * (es.length + 2) + (es.length + 2) < k := by rw [Nat.succ_mul] at hk; exact hk
    obtain ⟨k, rfl⟩ : ∃ m, k = m + 1 := ⟨k - 1, by omega⟩
    simp only [cabstandlaw18_worth.l0]
    have hi : i < (l.length : Int) := by omega
    have hab := addAt_bound hg 0 (rd_T50 l i).f0 (rd_T50 l i).f1
    have e2 : wrap64 (i + 1) = i + 1 := by unfold wrap64; omega
    rw [if_pos hi, worth_inner hg hn a b l i h0 hi es.length k acc 0 (by omega) (by omega) ha (by simp at hab ⊢; omega) (by omega), e2]
    simp only [List.drop_zero] at hab
    rw [show (0 : Int).toNat = 0 from rfl, List.drop_zero]
    rw [ih (k - es.length - 1) _ (i + 1) (by omega) (by omega) (by omega) (by omega) (by omega), drop_T50 l i h0 hi, worth_cons, addAt_wt hg.rise, Int.add_assoc]
theorem worth_is {R C : Int} {es : List S69} (hg : Good R C es) (hn : es.length ≤ 1152921504606846976) (a b : Int) (l : List S50) (hl : l.length ≤ 64) (k : Nat) (hk : 64 * (es.length + 2) < k) : cabstandlaw18_worth.f k a b es l = some (worthP es l) := by
  have h1 : l.length * (es.length + 2) ≤ 64 * (es.length + 2) := Nat.mul_le_mul_right _ hl
  have := worth_outer hg hn a b l hl l.length k 0 0 (by omega) (by omega) (by omega) (by omega) (by omega)
  rw [cabstandlaw18_worth.f, this]
  simp
/-! what Check says -/
def checkC (R C : Int) (es : List S69) (ps : List S50) (ys zs : List Int) : Int := firstOf (looksC R C es ps ys zs)
theorem check_is {R C : Int} {es : List S69} {ps : List S50} {ys zs : List Int} (h : Fits es ps ys zs) : cert_Check.f R C es ps ys zs = some (checkC R C es ps ys zs) := by
  unfold cert_Check.f
  rw [if_pos h]
  rfl
theorem check_zero {R C : Int} {es : List S69} {ps : List S50} {ys zs : List Int} : checkC R C es ps ys zs = 0 ↔ weighC R C es = 0 ∧ pairsC es ps = 0 ∧ lengthsC R C ys zs = 0 ∧ dualC es ys zs = 0 ∧ gapC es ps ys zs = 0 := by
  unfold checkC looksC
  simp only [firstOf]
  by_cases h1 : weighC R C es = 0
  · by_cases h2 : pairsC es ps = 0
    · by_cases h3 : lengthsC R C ys zs = 0
      · by_cases h4 : dualC es ys zs = 0
        · by_cases h5 : gapC es ps ys zs = 0 <;> simp [h1, h2, h3, h4, h5]
        · simp [h1, h2, h3, h4]
      · simp [h1, h2, h3]
    · simp [h1, h2]
  · simp [h1]
theorem pairsC_zero {es : List S69} {ps : List S50} : pairsC es ps = 0 ↔ pairsB es (-1) [] ps = true := by
  unfold pairsC
  split <;> simp_all
theorem dualC_zero {es : List S69} {ys zs : List Int} : dualC es ys zs = 0 ↔ holdB es ys zs = true := by
  unfold dualC
  split <;> simp_all
theorem gapC_zero {es : List S69} {ps : List S50} {ys zs : List Int} : gapC es ps ys zs = 0 ↔ clsum ys zs = (worthP es ps, true) := by
  unfold gapC
  split <;> simp_all
/-- a certificate that is taken: its matching is worth what the prices are together -/
theorem taken_worth {R C : Int} {es : List S69} {ps : List S50} {ys zs : List Int} (h : checkC R C es ps ys zs = 0) : worthP es ps = ys.sum + zs.sum := by
  obtain ⟨_, _, _, _, h5⟩ := check_zero.1 h
  have := sumL_is _ _ _ (clsum_true (gapC_zero.1 h5))
  rw [List.sum_append] at this
  omega
theorem pairs_64 {R C : Int} {es : List S69} {ps : List S50} {ys zs : List Int} (h : checkC R C es ps ys zs = 0) : ps.length ≤ 64 := by
  obtain ⟨h1, h2, _, _, _⟩ := check_zero.1 h
  have := pairs_few (good_of h1) ps (-1) [] (by omega) (by omega) (pairsC_zero.1 h2)
  omega
theorem rd_set_ne {l : List Int} {i j : Int} {x : Int} (hi : 0 ≤ i) (hj : 0 ≤ j) (h : i ≠ j) : rd (l.set i.toNat x) j = rd l j := by
  have hne : i.toNat ≠ j.toNat := by omega
  unfold rd
  simp [List.getD, hne]
theorem set_nonneg {l : List Int} (h : ∀ p ∈ l, 0 ≤ p) (i : Nat) : ∀ p ∈ l.set i 0, 0 ≤ p := fun p hp => by
  rcases List.mem_or_eq_of_mem_set hp with h1 | h1
  · exact h p h1
  · omega
/-- what holds of the prices that are left and the pairs to come -/
structure Left (es : List S69) (Y Z : List Int) (ps : List S50) : Prop where
  y0 : ∀ p ∈ Y, 0 ≤ p
  z0 : ∀ p ∈ Z, 0 ≤ p
  rn : (ps.map (·.f0)).Nodup
  cn : (ps.map (·.f1)).Nodup
  inn : ∀ p ∈ ps, 0 ≤ p.f0 ∧ p.f0 < Y.length ∧ 0 ≤ p.f1 ∧ p.f1 < Z.length
  ge : ∀ p ∈ ps, wt es p.f0 p.f1 ≤ rd Y p.f0 + rd Z p.f1
  tot : Y.sum + Z.sum = worthP es ps
theorem worth_le_left {es : List S69} {Y Z : List Int} : ∀ (ps : List S50), (∀ p ∈ ps, wt es p.f0 p.f1 ≤ rd Y p.f0 + rd Z p.f1) → worthP es ps ≤ ((ps.map (·.f0)).map (rd Y)).sum + ((ps.map (·.f1)).map (rd Z)).sum
  | [], _ => by simp [worthP]
  | p :: ps, hp => by
    have ih := worth_le_left ps (fun q hq => hp q (by simp [hq]))
    have := hp p (by simp)
    simp only [worthP, List.map_cons, List.sum_cons]
    omega
theorem Left.step {es : List S69} {Y Z : List Int} {p : S50} {ps : List S50} (h : Left es Y Z (p :: ps)) :
    rd Y p.f0 + rd Z p.f1 = wt es p.f0 p.f1 ∧ Left es (Y.set p.f0.toNat 0) (Z.set p.f1.toNat 0) ps := by
  obtain ⟨r1, r2⟩ := List.nodup_cons.1 h.rn
  obtain ⟨c1, c2⟩ := List.nodup_cons.1 h.cn
  obtain ⟨i0, i1, i2, i3⟩ := h.inn p (by simp)
  have s1 := sum_set Y p.f0.toNat (by omega)
  have s2 := sum_set Z p.f1.toNat (by omega)
  have e1 : rd Y p.f0 = Y.getD p.f0.toNat 0 := rfl
  have e2 : rd Z p.f1 = Z.getD p.f1.toNat 0 := rfl
  have hne : ∀ q ∈ ps, p.f0 ≠ q.f0 ∧ p.f1 ≠ q.f1 := fun q hq => ⟨fun e => r1 (List.mem_map.2 ⟨q, hq, e.symm⟩), fun e => c1 (List.mem_map.2 ⟨q, hq, e.symm⟩)⟩
  have hge : ∀ q ∈ ps, wt es q.f0 q.f1 ≤ rd (Y.set p.f0.toNat 0) q.f0 + rd (Z.set p.f1.toNat 0) q.f1 := fun q hq => by
    have hq0 := h.inn q (by simp [hq])
    rw [rd_set_ne i0 hq0.1 (hne q hq).1, rd_set_ne i2 hq0.2.2.1 (hne q hq).2]
    exact h.ge q (by simp [hq])
  have hin : ∀ q ∈ ps, 0 ≤ q.f0 ∧ q.f0 < (Y.set p.f0.toNat 0).length ∧ 0 ≤ q.f1 ∧ q.f1 < (Z.set p.f1.toNat 0).length := fun q hq => by
    rw [List.length_set, List.length_set]
    exact h.inn q (by simp [hq])
  have w1 := worth_le_left ps hge
  have w2 := places_le (ps.map (·.f0)) (Y.set p.f0.toNat 0) (set_nonneg h.y0 _) r2 (fun i hi => by obtain ⟨q, hq, rfl⟩ := List.mem_map.1 hi; have := hin q hq; omega)
  have w3 := places_le (ps.map (·.f1)) (Z.set p.f1.toNat 0) (set_nonneg h.z0 _) c2 (fun i hi => by obtain ⟨q, hq, rfl⟩ := List.mem_map.1 hi; have := hin q hq; omega)
  have hp := h.ge p (by simp)
  have ht := h.tot
  simp only [worthP] at ht
  refine ⟨by omega, ⟨set_nonneg h.y0 _, set_nonneg h.z0 _, r2, c2, hin, hge, by omega⟩⟩
theorem all_zero : ∀ (l : List Int), (∀ p ∈ l, 0 ≤ p) → l.sum = 0 → ∀ p ∈ l, p = 0
  | [], _, _, p, hp => by cases hp
  | q :: l, h, hs, p, hp => by
    have h0 := h q (by simp)
    have h1 := sum_nonneg l (fun r hr => h r (by simp [hr]))
    simp only [List.sum_cons] at hs
    rcases List.mem_cons.1 hp with rfl | hp
    · omega
    · exact all_zero l (fun r hr => h r (by simp [hr])) (by omega) p hp
/-- a matching that is checked: what is left of its prices at the start -/
theorem left_start {R C : Int} {es : List S69} {ps : List S50} {ys zs : List Int} (h : checkC R C es ps ys zs = 0) : Left es ys zs ps := by
  obtain ⟨g, p, l, d, e⟩ := check_zero.1 h
  have hg := good_of g
  have hp := pairsC_zero.1 p
  obtain ⟨l1, l2⟩ := lengthsC_zero l
  obtain ⟨h1, h2, h3⟩ := holdB_is (dualC_zero.1 d)
  obtain ⟨_, b, _, c⟩ := pairs_rows ps _ _ hp
  have hin := pairs_in ps _ _ hp
  refine ⟨h1, h2, b, c, fun q hq => ?_, fun q hq => ?_, (taken_worth h).symm⟩
  · obtain ⟨x, hx, x0, x1, _⟩ := wt_ne (hin q hq)
    have := hg.inn x hx
    omega
  · obtain ⟨x, hx, x0, x1, x2⟩ := wt_ne (hin q hq)
    have := h3 x hx
    rw [x0, x1, x2] at this
    omega
end Go.Proofs.Ytmdidgdcdlodlaa.Q
