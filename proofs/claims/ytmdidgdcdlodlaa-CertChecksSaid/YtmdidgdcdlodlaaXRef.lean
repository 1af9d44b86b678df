/- What the document's own functions of graphs, pairs and prices answer, in plain lists. Conditions: those that stand in each theorem. Written in this session. -/
import Derived.Test.YtmdidgdcdlodlaaQ10
import Derived.Test.YtmdidgdcdlodlaaQ31
namespace Go.Proofs.Ytmdidgdcdlodlaa.Q
open Go.RowKit Go.Proofs.YtmdidgdcdlodlaaW.PrintWords Go.Proofs.YtmdidgdcdlodlaaW.PrintLast
set_option linter.unusedVariables false
def upR (es : List S69) (j : Nat) : Int := if j = 0 then -1 else (rd_T69 es ((j - 1 : Nat) : Int)).f0
def upC (es : List S69) (j : Nat) : Int := if j = 0 then 0 else (rd_T69 es ((j - 1 : Nat) : Int)).f1
theorem w64 (j : Nat) (h : j < 9223372036854775807) : wrap64 ((j : Int) + 1) = ((j + 1 : Nat) : Int) := by unfold wrap64; omega
theorem dropE (es : List S69) (j : Nat) (h : j < es.length) : es.drop j = rd_T69 es (j : Int) :: es.drop (j + 1) := by
  have := drop_T69 es (j : Int) (by omega) (by omega)
  simpa using this
theorem dropP (es : List S50) (j : Nat) (h : j < es.length) : es.drop j = rd_T50 es (j : Int) :: es.drop (j + 1) := by
  have := drop_T50 es (j : Int) (by omega) (by omega)
  simpa using this
theorem dropI (es : List Int) (j : Nat) (h : j < es.length) : es.drop j = rd es (j : Int) :: es.drop (j + 1) := by
  have := rd_drop es (j : Int) (by omega) (by omega)
  simpa using this
theorem ref_j2t (k : Nat) (x : Int) (R C : Int) (es : List S69) (a b c : Int) : cabstandref16_Check.j2 (k + 1) x true R C es a b c = some 170 := by rw [cabstandref16_Check.j2, if_pos rfl]
theorem ref_l0 (R C : Int) (es : List S69) (hn : es.length ≤ 1152921504606846976) : ∀ m j k, j + m = es.length → 2 * m + 1 ≤ k → cabstandref16_Check.l0 k (j : Int) R C es = some (if edgesOK R C (upR es j) (upC es j) (es.drop j) then 0 else 170) := by
  intro m
  induction m with
  | zero =>
    intro j k hj hk
    obtain ⟨k', rfl⟩ : ∃ k', k = k' + 1 := ⟨k - 1, by omega⟩
    rw [cabstandref16_Check.l0, if_neg (by omega), List.drop_eq_nil_of_le (by omega)]
    rfl
  | succ m ih =>
    intro j k hj hk
    obtain ⟨k', rfl⟩ : ∃ k', k = k' + 1 + 1 := ⟨k - 2, by omega⟩
    have hjl : j < es.length := by omega
    rw [dropE es j hjl]
    have ihj := ih (j + 1) k' (by omega) (by omega)
    have e1 : upR es (j + 1) = (rd_T69 es (j : Int)).f0 := by simp [upR]
    have e2 : upC es (j + 1) = (rd_T69 es (j : Int)).f1 := by simp [upC]
    rw [e1, e2] at ihj
    rw [cabstandref16_Check.l0, if_pos (by omega), if_pos (by omega)]
    have hu : 0 < j → upR es j = (rd_T69 es (wrap64 ((j : Int) - 1))).f0 ∧ upC es j = (rd_T69 es (wrap64 ((j : Int) - 1))).f1 := fun h => by
      have e3 : wrap64 ((j : Int) - 1) = ((j - 1 : Nat) : Int) := by unfold wrap64; omega
      rw [e3]
      simp [upR, upC, show j ≠ 0 by omega]
    generalize rd_T69 es (j : Int) = e at ihj ⊢
    have hO : edgesOK R C (upR es j) (upC es j) (e :: es.drop (j + 1)) = (edgeIn R C e && edgeUp (upR es j) (upC es j) e && edgesOK R C e.f0 e.f1 (es.drop (j + 1))) := rfl
    rw [hO]
    by_cases hin : 0 ≤ e.f0 ∧ e.f0 < R ∧ 0 ≤ e.f1 ∧ e.f1 < C ∧ 1 ≤ e.f2 ∧ e.f2 ≤ 1099513724929
    · have hI : edgeIn R C e = true := by unfold edgeIn; exact decide_eq_true hin
      rw [if_neg (by omega), if_neg (by omega), if_neg (by omega), if_neg (by omega), if_neg (by omega), decide_eq_false (by omega), cabstandref16_Check.j2, if_neg (by simp)]
      by_cases hj0 : j = 0
      · subst hj0
        have hU : edgeUp (upR es 0) (upC es 0) e = true := by unfold edgeUp upR; exact decide_eq_true (Or.inl (by rw [if_pos rfl]; omega))
        rw [if_neg (by omega), w64 0 (by omega), hI, hU]
        simpa using ihj
      · obtain ⟨u1, u2⟩ := hu (by omega)
        have e3 : wrap64 ((j : Int) - 1) = ((j - 1 : Nat) : Int) := by unfold wrap64; omega
        rw [if_pos (by omega), if_pos (by rw [e3]; omega), if_pos (by rw [e3]; omega), <- u1, <- u2, w64 j (by omega), hI]
        by_cases hlt : e.f0 < upR es j
        · have hU : edgeUp (upR es j) (upC es j) e = false := by unfold edgeUp; exact decide_eq_false (by omega)
          rw [if_pos hlt, hU]
          rfl
        · rw [if_neg hlt]
          by_cases heq : e.f0 = upR es j
          · rw [if_pos heq]
            by_cases hc : e.f1 ≤ upC es j
            · have hU : edgeUp (upR es j) (upC es j) e = false := by unfold edgeUp; exact decide_eq_false (by omega)
              rw [if_pos hc, hU]
              rfl
            · have hU : edgeUp (upR es j) (upC es j) e = true := by unfold edgeUp; exact decide_eq_true (by omega)
              rw [if_neg hc, hU]
              simpa using ihj
          · have hU : edgeUp (upR es j) (upC es j) e = true := by unfold edgeUp; exact decide_eq_true (by omega)
            rw [if_neg heq, hU]
            simpa using ihj
    · have hI : edgeIn R C e = false := by unfold edgeIn; exact decide_eq_false hin
      rw [hI, ref_j2t]
      show _ = some 170
      split
      · rfl
      · split
        · rfl
        · split
          · rfl
          · split
            · rfl
            · split
              · rfl
              · rw [decide_eq_true (show e.f2 > 1099513724929 by omega), ref_j2t]
theorem ref_check (R C : Int) (es : List S69) (hn : es.length ≤ 1152921504606846976) (k : Nat) (hk : 2 * es.length + 2 ≤ k) : cabstandref16_Check.f k R C es = some (weighC R C es) := by
  obtain ⟨k', rfl⟩ : ∃ k', k = k' + 1 := ⟨k - 1, by omega⟩
  have h := ref_l0 R C es hn es.length 0 k' (by omega) (by omega)
  have h' : cabstandref16_Check.l0 k' 0 R C es = some (if edgesOK R C (-1) 0 es then 0 else 170) := h
  unfold cabstandref16_Check.f weighC bad0
  by_cases h1 : R < 0
  · simp [h1, cabstandref16_Check.j0]
  · by_cases h2 : R > 64
    · simp [h1, h2, cabstandref16_Check.j0]
    · by_cases h3 : C < 0
      · simp [h1, h2, h3, cabstandref16_Check.j0]
      · by_cases h4 : C > 64
        · simp [h1, h2, h3, h4, cabstandref16_Check.j0]
        · simp only [h1, h2, h3, h4, cabstandref16_Check.j0, if_false, decide_false, h', Bool.false_or]
          cases edgesOK R C (-1) 0 es <;> simp
theorem ref_weight (R C : Int) (es : List S69) (hn : es.length ≤ 1152921504606846976) (r c : Int) : ∀ m j k, j + m = es.length → m + 1 ≤ k → cabstandref18_Weight.l0 k r c (j : Int) R C es = some (wt (es.drop j) r c) := by
  intro m
  induction m with
  | zero =>
    intro j k hj hk
    obtain ⟨k', rfl⟩ : ∃ k', k = k' + 1 := ⟨k - 1, by omega⟩
    rw [cabstandref18_Weight.l0, if_neg (by omega), List.drop_eq_nil_of_le (by omega)]
    rfl
  | succ m ih =>
    intro j k hj hk
    obtain ⟨k', rfl⟩ : ∃ k', k = k' + 1 := ⟨k - 1, by omega⟩
    have hjl : j < es.length := by omega
    have ihj := ih (j + 1) k' (by omega) (by omega)
    rw [cabstandref18_Weight.l0, if_pos (by omega), if_pos (by omega), w64 j (by omega), dropE es j hjl, ihj]
    generalize rd_T69 es (j : Int) = e
    rw [wt]
    by_cases h1 : e.f0 = r <;> by_cases h2 : e.f1 = c <;> simp [h1, h2]
theorem ref_weight_f (R C : Int) (es : List S69) (hn : es.length ≤ 1152921504606846976) (r c : Int) (k : Nat) (hk : es.length + 1 ≤ k) : cabstandref18_Weight.f k R C es r c = some (wt es r c) := ref_weight R C es hn r c es.length 0 k (by omega) hk
def lastR (ps : List S50) (j : Nat) : Int := if j = 0 then -1 else (rd_T50 ps ((j - 1 : Nat) : Int)).f0
def colsB (ps : List S50) (j : Nat) : List Int := ((ps.take j).map (·.f1)).reverse
theorem colsB_next (ps : List S50) (j : Nat) (h : j < ps.length) : colsB ps (j + 1) = (rd_T50 ps (j : Int)).f1 :: colsB ps j := by
  unfold colsB
  have e : ps[j] = rd_T50 ps (j : Int) := by simp [rd_T50, List.getD, h]
  rw [List.take_succ_eq_append_getElem h, e]
  simp
theorem colsB_mem (ps : List S50) (j : Nat) (hj : j ≤ ps.length) (c : Int) : c ∈ colsB ps j ↔ ∃ i : Nat, i < j ∧ (rd_T50 ps (i : Int)).f1 = c := by
  induction j with
  | zero => simp [colsB]
  | succ j ih =>
    rw [colsB_next ps j (by omega), List.mem_cons, ih (by omega)]
    constructor
    · rintro (h | ⟨i, h1, h2⟩)
      · exact ⟨j, by omega, h.symm⟩
      · exact ⟨i, by omega, h2⟩
    · rintro ⟨i, h1, h2⟩
      by_cases hi : i = j
      · subst hi; exact Or.inl h2.symm
      · exact Or.inr ⟨i, by omega, h2⟩
open Classical in
theorem ref_pairs_l1 (R C : Int) (es : List S69) (ps : List S50) (hp : ps.length ≤ 1152921504606846976) (j : Nat) (hj : j < ps.length) : ∀ d i k, i + d = j → d + 1 ≤ k →
    cabstandref18_Pairs.l1 k ps (j : Int) (i : Int) R C es = (if ∃ q : Nat, i ≤ q ∧ q < j ∧ (rd_T50 ps (q : Int)).f1 = (rd_T50 ps (j : Int)).f1 then some 180 else cabstandref18_Pairs.l0 (k - (d + 1)) ps ((j + 1 : Nat) : Int) R C es) := by
  intro d
  induction d with
  | zero =>
    intro i k hi hk
    obtain ⟨k', rfl⟩ : ∃ k', k = k' + 1 := ⟨k - 1, by omega⟩
    rw [cabstandref18_Pairs.l1, if_neg (by omega), w64 j (by omega), if_neg (by rintro ⟨q, h1, h2, _⟩; omega)]
    rfl
  | succ d ih =>
    intro i k hi hk
    obtain ⟨k', rfl⟩ : ∃ k', k = k' + 1 := ⟨k - 1, by omega⟩
    rw [cabstandref18_Pairs.l1, if_pos (by omega), if_pos (by omega), if_pos (by omega), if_pos (by omega), if_pos (by omega)]
    by_cases hc : (rd_T50 ps (i : Int)).f1 = (rd_T50 ps (j : Int)).f1
    · rw [if_pos hc, if_pos ⟨i, Nat.le_refl _, by omega, hc⟩]
    · rw [if_neg hc, w64 i (by omega), ih (i + 1) k' (by omega) (by omega)]
      have hiff : (∃ q : Nat, i + 1 ≤ q ∧ q < j ∧ (rd_T50 ps (q : Int)).f1 = (rd_T50 ps (j : Int)).f1) ↔ (∃ q : Nat, i ≤ q ∧ q < j ∧ (rd_T50 ps (q : Int)).f1 = (rd_T50 ps (j : Int)).f1) := by
        constructor
        · rintro ⟨q, h1, h2, h3⟩; exact ⟨q, by omega, h2, h3⟩
        · rintro ⟨q, h1, h2, h3⟩
          by_cases hq : q = i
          · subst hq; exact absurd h3 hc
          · exact ⟨q, by omega, h2, h3⟩
      have hk' : k' + 1 - (d + 1 + 1) = k' - (d + 1) := by omega
      rw [hk']
      by_cases hx : ∃ q : Nat, i ≤ q ∧ q < j ∧ (rd_T50 ps (q : Int)).f1 = (rd_T50 ps (j : Int)).f1
      · rw [if_pos hx, if_pos (hiff.2 hx)]
      · rw [if_neg hx, if_neg (fun h => hx (hiff.1 h))]
theorem ref_pairs_l0 {R C : Int} {es : List S69} (hg : Good R C es) (hn : es.length ≤ 1152921504606846976) (ps : List S50) (hp : ps.length ≤ 1152921504606846976) : ∀ m j k, j + m = ps.length → m * (ps.length + 3) + es.length + 2 ≤ k →
    cabstandref18_Pairs.l0 k ps (j : Int) R C es = some (if pairsB es (lastR ps j) (colsB ps j) (ps.drop j) then 0 else 180) := by
  intro m
  induction m with
  | zero =>
    intro j k hj hk
    obtain ⟨k', rfl⟩ : ∃ k', k = k' + 1 := ⟨k - 1, by omega⟩
    rw [cabstandref18_Pairs.l0, if_neg (by omega), List.drop_eq_nil_of_le (by omega)]
    rfl
  | succ m ih =>
    intro j k hj hk
    have hmul : (m + 1) * (ps.length + 3) = m * (ps.length + 3) + (ps.length + 3) := Nat.succ_mul _ _
    rw [hmul] at hk
    generalize hM : m * (ps.length + 3) = M at hk ih
    obtain ⟨k', rfl⟩ : ∃ k', k = k' + 1 + 1 := ⟨k - 2, by omega⟩
    have hjl : j < ps.length := by omega
    have ihj := ih (j + 1) (k' - (j + 1)) (by omega) (by omega)
    have hl1 := ref_pairs_l1 R C es ps hp j hjl j 0 k' (by omega) (by omega)
    have hcols := colsB_mem ps j (by omega) (rd_T50 ps (j : Int)).f1
    have hnext := colsB_next ps j hjl
    have hlast : lastR ps (j + 1) = (rd_T50 ps (j : Int)).f0 := by simp [lastR]
    have hprev : 0 < j → lastR ps j = (rd_T50 ps (wrap64 ((j : Int) - 1))).f0 := fun h => by
      have e3 : wrap64 ((j : Int) - 1) = ((j - 1 : Nat) : Int) := by unfold wrap64; omega
      rw [e3]
      simp [lastR, show j ≠ 0 by omega]
    rw [hnext, hlast] at ihj
    rw [ihj] at hl1
    rw [dropP ps j hjl, cabstandref18_Pairs.l0, if_pos (by omega), if_pos (by omega), ref_weight_f R C es hn _ _ (k' + 1) (by omega), Option.bind_some]
    have hl1' : cabstandref18_Pairs.l1 k' ps (j : Int) 0 R C es = (if (rd_T50 ps (j : Int)).f1 ∈ colsB ps j then some 180 else some (if pairsB es (rd_T50 ps (j : Int)).f0 ((rd_T50 ps (j : Int)).f1 :: colsB ps j) (ps.drop (j + 1)) then 0 else 180)) := by
      refine hl1.trans ?_
      by_cases hx : (rd_T50 ps (j : Int)).f1 ∈ colsB ps j
      · rw [if_pos hx, if_pos (by obtain ⟨i, h1, h2⟩ := hcols.1 hx; exact ⟨i, by omega, h1, h2⟩)]
      · rw [if_neg hx, if_neg (by rintro ⟨q, h1, h2, h3⟩; exact hx (hcols.2 ⟨q, h2, h3⟩))]
    have hfin : ∀ b : Bool, (decide (lastR ps j < (rd_T50 ps (j : Int)).f0) = !b) → wt es (rd_T50 ps (j : Int)).f0 (rd_T50 ps (j : Int)).f1 ≠ 0 → cabstandref18_Pairs.j1 (k' + 1) ps (j : Int) b R C es = some (if pairsB es (lastR ps j) (colsB ps j) (rd_T50 ps (j : Int) :: ps.drop (j + 1)) then 0 else 180) := by
      intro b hb hw
      rw [cabstandref18_Pairs.j1, hl1', pairsB, hb]
      cases b
      · rw [if_neg (by simp)]
        by_cases hx : (rd_T50 ps (j : Int)).f1 ∈ colsB ps j
        · simp [hx]
        · simp [hx, hw]
      · simp
    by_cases hw : wt es (rd_T50 ps (j : Int)).f0 (rd_T50 ps (j : Int)).f1 = 0
    · rw [if_pos hw, cabstandref18_Pairs.j1, if_pos rfl, pairsB, hw]
      simp
    · rw [if_neg hw]
      by_cases hj0 : j = 0
      · rw [if_neg (by omega)]
        refine hfin false ?_ hw
        obtain ⟨e, he, h1, h2, h3⟩ := wt_ne hw
        have := (hg.inn e he).1
        subst hj0
        have h1' : e.f0 = (rd_T50 ps 0).f0 := h1
        simp [lastR]
        omega
      · have e3 : wrap64 ((j : Int) - 1) = ((j - 1 : Nat) : Int) := by unfold wrap64; omega
        rw [if_pos (by omega), if_pos (by rw [e3]; omega), if_pos (by rw [e3]; omega)]
        refine hfin _ ?_ hw
        rw [hprev (by omega)]
        by_cases hq : (rd_T50 ps (j : Int)).f0 ≤ (rd_T50 ps (wrap64 ((j : Int) - 1))).f0
        · rw [decide_eq_true hq, decide_eq_false (by omega)]; rfl
        · rw [decide_eq_false hq, decide_eq_true (by omega)]; rfl
theorem ref_pairs (R C : Int) (es : List S69) (ps : List S50) (hn : es.length ≤ 1152921504606846976) (hp : ps.length ≤ 1152921504606846976) (k : Nat) (hk : ps.length * (ps.length + 3) + 2 * es.length + 2 ≤ k) : cabstandref18_Pairs.f k R C es ps = some (firstOf [weighC R C es, pairsC es ps]) := by
  unfold cabstandref18_Pairs.f
  generalize hM : ps.length * (ps.length + 3) = M at hk
  rw [ref_check R C es hn k (by omega), Option.bind_some]
  by_cases h : weighC R C es = 0
  · rw [if_pos h]
    have := ref_pairs_l0 (good_of h) hn ps hp ps.length 0 k (by omega) (by omega)
    refine this.trans ?_
    rw [h]
    show some (if pairsB es (-1) [] ps = true then 0 else 180) = _
    unfold pairsC
    cases pairsB es (-1) [] ps <;> rfl
  · rw [if_neg h]
    simp [firstOf, h]
theorem pairs_alike (R C : Int) (es : List S69) (ps : List S50) (h1 : es.length ≤ 1048576) (h2 : ps.length ≤ 1048576) : ∃ k r, cert_Pairs.f R C es ps = some r ∧ cabstandref18_Pairs.f k R C es ps = some r := by
  refine ⟨_, _, ?_, ref_pairs R C es ps (by omega) (by omega) _ (Nat.le_refl _)⟩
  unfold cert_Pairs.f
  rw [if_pos ⟨by omega, by omega, by simp, by simp, by simp⟩]
end Go.Proofs.Ytmdidgdcdlodlaa.Q
