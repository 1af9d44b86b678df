/- A heap, and the list of what was put in the order in which it came. Conditions: those that stand in each theorem. Written in this session. -/
import Derived.Test.YtibipbfmhbkpiaaHeapK
namespace Go.Proofs.Ytibipbfmhbkpiaa.HeapP
set_option linter.unusedVariables false
set_option linter.unusedSectionVars false
set_option linter.unusedSimpArgs false
variable {K P : Type} [Inhabited K] [Inhabited P] [DecidableEq K]
/-- l holds what M holds; M is in the order in which they came -/
structure RelM (l : List (Item K P)) (c : Int) (M : List (Item K P)) : Prop where
  perm : l.Perm M
  keys : Keys l
  asc : M.Pairwise (fun x y => x.2.2 < y.2.2)
  le : ∀ x ∈ M, x.2.2 ≤ c
theorem RelM.empty : RelM ([] : List (Item K P)) 0 [] := ⟨List.Perm.refl _, by simp [Keys], List.Pairwise.nil, by simp⟩
theorem RelM.keysM {l : List (Item K P)} {c : Int} {M : List (Item K P)} (h : RelM l c M) : Keys M := h.keys.perm h.perm.symm
theorem keys_filter {l : List (Item K P)} (h : Keys l) (p : Item K P → Bool) : Keys (l.filter p) := by
  unfold Keys at *
  exact h.sublist (List.filter_sublist.map _)
theorem RelM.put {lt : P → P → Bool} {l : List (Item K P)} {c : Int} {M : List (Item K P)} (h : RelM l c M) (k : K) (r : P) : RelM (putL lt l (c + 1) k r) (c + 1) (M.filter (fun x => decide (x.1 ≠ k)) ++ [(k, r, c + 1)]) := by
  have hp : (putL lt l (c + 1) k r).Perm (M.filter (fun x => decide (x.1 ≠ k)) ++ [(k, r, c + 1)]) := (putL_perm lt h.keys (c + 1) k r).trans ((h.perm.filter _).append_right _)
  have hk : Keys (M.filter (fun x => decide (x.1 ≠ k)) ++ [(k, r, c + 1)]) := by
    refine keys_append (keys_filter h.keysM _) (idx_none.2 fun x hx => ?_)
    have := (List.mem_filter.1 hx).2
    simpa using this
  refine ⟨hp, hk.perm hp, ?_, ?_⟩
  · rw [List.pairwise_append]
    refine ⟨h.asc.filter _, by simp, fun x hx y hy => ?_⟩
    simp at hy
    subst hy
    have := h.le x (List.mem_filter.1 hx).1
    show x.2.2 < c + 1
    omega
  · intro x hx
    rcases List.mem_append.1 hx with q | q
    · have := h.le x (List.mem_filter.1 q).1
      omega
    · simp at q
      subst q
      exact Int.le_refl _
theorem RelM.drop {lt : P → P → Bool} {l : List (Item K P)} {c : Int} {M : List (Item K P)} (h : RelM l c M) {k : K} {i : Nat} (hi : idxL l k = some i) : RelM (dropL lt l i) c (M.filter (fun x => decide (x.1 ≠ k))) := by
  have hp : (dropL lt l i).Perm (M.filter (fun x => decide (x.1 ≠ k))) := by
    refine (dropL_perm lt (idx_some hi).1).trans ?_
    rw [← filter_erase h.keys hi]
    exact h.perm.filter _
  exact ⟨hp, (keys_filter h.keysM _).perm hp, h.asc.filter _, fun x hx => h.le x (List.mem_filter.1 hx).1⟩
theorem RelM.idx {l : List (Item K P)} {c : Int} {M : List (Item K P)} (h : RelM l c M) {k : K} : idxL l k = none ↔ idxL M k = none := by
  rw [idx_none, idx_none]
  exact ⟨fun q x hx => q x (h.perm.mem_iff.2 hx), fun q x hx => q x (h.perm.mem_iff.1 hx)⟩
theorem at_mem {l : List (Item K P)} {i : Nat} (h : i < l.length) : at_ l i ∈ l := by
  rw [at_eq h]
  exact List.getElem_mem h
theorem same_key {l : List (Item K P)} (h : Keys l) {x y : Item K P} (hx : x ∈ l) (hy : y ∈ l) (e : x.1 = y.1) : x = y := by
  obtain ⟨i, hi, rfl⟩ := List.getElem_of_mem hx
  obtain ⟨j, hj, rfl⟩ := List.getElem_of_mem hy
  have := key_inj h hi hj (by rw [at_eq hi, at_eq hj]; exact e)
  subst this
  rfl
theorem RelM.rank {l : List (Item K P)} {c : Int} {M : List (Item K P)} (h : RelM l c M) {k : K} {i j : Nat} (hi : idxL l k = some i) (hj : idxL M k = some j) : at_ l i = at_ M j := by
  obtain ⟨a, b⟩ := idx_some hi
  obtain ⟨a', b'⟩ := idx_some hj
  exact same_key h.keysM (h.perm.mem_iff.1 (at_mem a)) (at_mem a') (b.trans b'.symm)
/-- the place of the first one of the least -/
def leastF (lt : P → P → Bool) (rk : Nat → P) : Nat → Option Nat
  | 0 => none
  | n + 1 => match leastF lt rk n with
    | none => some n
    | some b => if lt (rk n) (rk b) = true then some n else some b
theorem leastF_spec {lt : P → P → Bool} (hw : Swo lt) (rk : Nat → P) : ∀ n, (n = 0 ∧ leastF lt rk n = none) ∨ ∃ b, leastF lt rk n = some b ∧ b < n ∧ ∀ i, i < n → lt (rk i) (rk b) = false ∧ (i < b → lt (rk b) (rk i) = true)
  | 0 => Or.inl ⟨rfl, rfl⟩
  | n + 1 => by
    right
    unfold leastF
    rcases leastF_spec hw rk n with ⟨h0, h1⟩ | ⟨b, h1, h2, h3⟩
    · rw [h1]
      subst h0
      refine ⟨0, rfl, by omega, fun i hi => ?_⟩
      have : i = 0 := by omega
      subst this
      refine ⟨?_, fun q => absurd q (by omega)⟩
      cases e : lt (rk 0) (rk 0) with
      | false => rfl
      | true => rw [hw.asymm _ _ e] at e; cases e
    · rw [h1]
      show ∃ b', (if lt (rk n) (rk b) = true then some n else some b) = some b' ∧ _
      by_cases e : lt (rk n) (rk b) = true
      · rw [if_pos e]
        refine ⟨n, rfl, by omega, fun i hi => ?_⟩
        by_cases ein : i = n
        · subst ein
          refine ⟨?_, fun q => absurd q (by omega)⟩
          cases e2 : lt (rk i) (rk i) with
          | false => rfl
          | true => rw [hw.asymm _ _ e2] at e2; cases e2
        · have hi' : i < n := by omega
          have e3 : lt (rk n) (rk i) = true := by
            rcases hw.neg _ (rk i) _ e with q | q
            · exact q
            · rw [(h3 i hi').1] at q; cases q
          exact ⟨hw.asymm _ _ e3, fun _ => e3⟩
      · rw [if_neg e]
        refine ⟨b, rfl, by omega, fun i hi => ?_⟩
        by_cases ein : i = n
        · subst ein
          exact ⟨by simpa using e, fun q => absurd q (by omega)⟩
        · exact h3 i (by omega)
theorem Le.came {lt : P → P → Bool} {a b : Item K P} (h1 : Le lt a b) (h2 : Le lt b a) : a.2.2 = b.2.2 := by
  unfold Le aheadB at *
  simp only [Bool.or_eq_false_iff, Bool.and_eq_false_iff, Bool.not_eq_false', decide_eq_false_iff_not] at h1 h2
  obtain ⟨p1, p2⟩ := h1
  obtain ⟨q1, q2⟩ := h2
  rcases p2 with e | e
  · rw [q1] at e; cases e
  · rcases q2 with e' | e'
    · rw [p1] at e'; cases e'
    · omega
theorem asc_inj {M : List (Item K P)} (h : M.Pairwise (fun x y => x.2.2 < y.2.2)) {x y : Item K P} (hx : x ∈ M) (hy : y ∈ M) (e : x.2.2 = y.2.2) : x = y := by
  obtain ⟨i, hi, rfl⟩ := List.getElem_of_mem hx
  obtain ⟨j, hj, rfl⟩ := List.getElem_of_mem hy
  rcases Nat.lt_trichotomy i j with q | q | q
  · have := List.pairwise_iff_getElem.1 h i j hi hj q
    omega
  · subst q; rfl
  · have := List.pairwise_iff_getElem.1 h j i hj hi q
    omega
/-- the one at the front is the first of the least -/
theorem RelM.first {lt : P → P → Bool} (hw : Swo lt) {l : List (Item K P)} {c : Int} {M : List (Item K P)} (h : RelM l c M) (hh : HeapOK lt l) {b : Nat} (hb : leastF lt (fun i => (at_ M i).2.1) M.length = some b) : at_ l 0 = at_ M b ∧ b < M.length ∧ 0 < l.length := by
  have hlen := h.perm.length_eq
  rcases leastF_spec hw (fun i => (at_ M i).2.1) M.length with ⟨_, h1⟩ | ⟨b', h1, h2, h3⟩
  · rw [h1] at hb; cases hb
  · rw [h1] at hb
    cases hb
    have h0 : 0 < l.length := by omega
    refine ⟨?_, h2, h0⟩
    have m0 : at_ l 0 ∈ M := h.perm.mem_iff.1 (at_mem h0)
    have m1 : at_ M b ∈ l := h.perm.mem_iff.2 (at_mem h2)
    obtain ⟨i, hi, ei⟩ := List.getElem_of_mem m1
    have l1 : Le lt (at_ l 0) (at_ M b) := by
      rw [← ei, ← at_eq hi]
      exact heap_min hw hh i i (Nat.le_refl _) hi
    obtain ⟨j, hj, ej⟩ := List.getElem_of_mem m0
    have l2 : Le lt (at_ M b) (at_ l 0) := by
      obtain ⟨p, q⟩ := h3 j hj
      rw [← ej, ← at_eq hj]
      unfold Le aheadB
      simp only [Bool.or_eq_false_iff, Bool.and_eq_false_iff, Bool.not_eq_false', decide_eq_false_iff_not]
      refine ⟨p, ?_⟩
      by_cases hjb : j < b
      · exact Or.inl (q hjb)
      · right
        by_cases e : j = b
        · subst e; omega
        · have := List.pairwise_iff_getElem.1 h.asc b j h2 hj (by omega)
          rw [at_eq hj, at_eq h2]
          omega
    exact asc_inj h.asc m0 (at_mem h2) (Le.came l1 l2)
end Go.Proofs.Ytibipbfmhbkpiaa.HeapP
