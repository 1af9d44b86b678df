/- What came last of each key, and in which order it goes: no program in sight. Conditions: those that stand in each theorem. Written in this session. -/
import Derived.Test.YtibipbfmhbkpiaaHeapR
namespace Go.Proofs.Ytibipbfmhbkpiaa.HeapP
set_option linter.unusedVariables false
set_option linter.unusedSectionVars false
set_option linter.unusedSimpArgs false
variable {K P : Type} [DecidableEq K] [Inhabited K] [Inhabited P]
/-- the one at j, as it came -/
def mkI (l : List (K × P)) (j : Nat) : Item K P := ((l.getD j default).1, (l.getD j default).2, ((j + 1 : Nat) : Int))
/-- of those ahead of i: is the one at j the last one of its key? -/
def lastUp (l : List (K × P)) (i j : Nat) : Bool := (List.range i).all (fun k => decide (j < k → (l.getD k default).1 ≠ (l.getD j default).1))
def cameL (l : List (K × P)) (i : Nat) : List (Item K P) := ((List.range i).filter (lastUp l i)).map (mkI l)
theorem lastUp_iff (l : List (K × P)) (i j : Nat) : lastUp l i j = true ↔ ∀ k, k < i → j < k → (l.getD k default).1 ≠ (l.getD j default).1 := by
  unfold lastUp
  rw [List.all_eq_true]
  constructor
  · intro h k hk
    exact of_decide_eq_true (h k (List.mem_range.2 hk))
  · intro h k hk
    exact decide_eq_true (h k (List.mem_range.1 hk))
theorem lastUp_succ (l : List (K × P)) {i j : Nat} (h : j < i) : lastUp l (i + 1) j = (decide ((mkI l j).1 ≠ (l.getD i default).1) && lastUp l i j) := by
  rw [Bool.eq_iff_iff, Bool.and_eq_true, lastUp_iff, lastUp_iff, decide_eq_true_iff]
  constructor
  · intro q
    exact ⟨fun e => q i (by omega) h e.symm, fun k hk => q k (by omega)⟩
  · rintro ⟨q1, q2⟩ k hk hjk
    by_cases e : k = i
    · subst e; exact fun e => q1 e.symm
    · exact q2 k (by omega) hjk
theorem cameL_succ (l : List (K × P)) (i : Nat) : cameL l (i + 1) = (cameL l i).filter (fun x => decide (x.1 ≠ (l.getD i default).1)) ++ [((l.getD i default).1, (l.getD i default).2, ((i : Int) + 1))] := by
  unfold cameL
  rw [List.range_succ, List.filter_append, List.map_append, List.filter_map, List.filter_filter]
  congr 1
  · congr 1
    refine List.filter_congr fun j hj => ?_
    rw [List.mem_range] at hj
    exact lastUp_succ l hj
  · have h : lastUp l (i + 1) i = true := (lastUp_iff _ _ _).2 fun k h1 h2 => by omega
    simp [h, mkI]
/-- what is wanted, of those ahead of i -/
def wantL (l : List (K × P)) (i : Nat) : List (K × P) := ((List.range i).filter (lastUp l l.length)).map (fun j => l.getD j default)
theorem wantL_zero (l : List (K × P)) : wantL l 0 = [] := rfl
theorem wantL_succ (l : List (K × P)) (i : Nat) : wantL l (i + 1) = if lastUp l l.length i = true then wantL l i ++ [l.getD i default] else wantL l i := by
  unfold wantL
  rw [List.range_succ, List.filter_append, List.map_append]
  by_cases h : lastUp l l.length i = true
  · rw [if_pos h]; simp [h]
  · rw [if_neg h]; simp [h]
def pairOf (x : Item K P) : K × P := (x.1, x.2.1)
theorem wantL_came (l : List (K × P)) : wantL l l.length = (cameL l l.length).map pairOf := by
  unfold wantL cameL
  rw [List.map_map]
  rfl
theorem wantL_len (l : List (K × P)) (i : Nat) : (wantL l i).length ≤ i := by
  unfold wantL
  rw [List.length_map]
  exact Nat.le_trans (List.length_filter_le _ _) (by simp)
/-- what is still there -/
structure Remain (lt : P → P → Bool) (M hl : List (Item K P)) (gone : List Bool) : Prop where
  len : gone.length = M.length
  keysM : Keys M
  asc : M.Pairwise (fun x y => x.2.2 < y.2.2)
  keys : Keys hl
  ok : HeapOK lt hl
  mem : ∀ x, x ∈ hl ↔ ∃ k : Nat, M[k]? = some x ∧ gone[k]? = some false
theorem Remain.start {lt : P → P → Bool} {M hl : List (Item K P)} {c : Int} (h : RelM hl c M) (hh : HeapOK lt hl) : Remain lt M hl (List.replicate M.length false) := by
  refine ⟨by simp, h.keysM, h.asc, h.keys, hh, fun x => ?_⟩
  rw [h.perm.mem_iff]
  constructor
  · intro hx
    obtain ⟨k, hk, e⟩ := List.getElem_of_mem hx
    exact ⟨k, by rw [List.getElem?_eq_getElem hk, e], by rw [List.getElem?_replicate, if_pos hk]⟩
  · rintro ⟨k, h1, _⟩
    exact List.mem_of_getElem? h1
/-- the first one goes: it was there at k, and was not gone -/
theorem Remain.pop {lt : P → P → Bool} (hw : Swo lt) {M hl : List (Item K P)} {gone : List Bool} (h : Remain lt M hl gone) (h0 : 0 < hl.length) :
    ∃ k, idxL M (at_ hl 0).1 = some k ∧ k < M.length ∧ at_ M k = at_ hl 0 ∧ gone[k]? = some false ∧ Remain lt M (dropL lt hl 0) (gone.set k true) ∧ (dropL lt hl 0).length + 1 = hl.length ∧ (∀ y ∈ dropL lt hl 0, Le lt (at_ hl 0) y) := by
  have hm : at_ hl 0 ∈ hl := at_mem h0
  obtain ⟨k, hk, hg⟩ := (h.mem _).1 hm
  have hkl : k < M.length := (List.getElem?_eq_some_iff.1 hk).1
  have hat : at_ M k = at_ hl 0 := by
    rw [at_get hkl] at hk
    exact Option.some.inj hk
  have hi : idxL M (at_ hl 0).1 = some k := by rw [← hat]; exact idx_at h.keysM hkl
  have hp : (dropL lt hl 0).Perm (hl.eraseIdx 0) := dropL_perm lt h0
  have hf : hl.eraseIdx 0 = hl.filter (fun x => decide (x.1 ≠ (at_ hl 0).1)) := (filter_erase h.keys (idx_at h.keys h0)).symm
  have hsub : ∀ y ∈ dropL lt hl 0, y ∈ hl := fun y hy => List.mem_of_mem_eraseIdx (hp.mem_iff.1 hy)
  refine ⟨k, hi, hkl, hat, hg, ⟨by rw [List.length_set]; exact h.len, h.keysM, h.asc, ?_, dropL_ok hw h.ok h0, fun x => ?_⟩, ?_, fun y hy => ?_⟩
  · rw [hf] at hp
    exact (keys_filter h.keys _).perm hp
  · rw [hp.mem_iff, hf, List.mem_filter, h.mem]
    constructor
    · rintro ⟨⟨j, h1, h2⟩, h3⟩
      refine ⟨j, h1, ?_⟩
      have hjk : k ≠ j := by
        intro e
        subst e
        rw [hk] at h1
        rw [← Option.some.inj h1] at h3
        simp at h3
      rw [List.getElem?_set_ne hjk]
      exact h2
    · rintro ⟨j, h1, h2⟩
      have hjk : k ≠ j := by
        intro e
        subst e
        rw [List.getElem?_set_self (by rw [h.len]; exact hkl)] at h2
        cases h2
      rw [List.getElem?_set_ne hjk] at h2
      refine ⟨⟨j, h1, h2⟩, ?_⟩
      have hjl : j < M.length := (List.getElem?_eq_some_iff.1 h1).1
      rw [at_get hjl] at h1
      rw [← Option.some.inj h1, ← hat]
      rw [decide_eq_true_iff]
      exact fun e => hjk (key_inj h.keysM hkl hjl e.symm)
  · rw [hp.length_eq, List.length_eraseIdx, if_pos h0]
    omega
  · obtain ⟨i, hil, e⟩ := List.getElem_of_mem (hsub y hy)
    rw [← e, ← at_eq hil]
    exact heap_min hw h.ok i i (Nat.le_refl _) hil
/-- of two of which one is ahead: the order, as it is asked -/
theorem Remain.order {lt : P → P → Bool} {M : List (Item K P)} (ha : M.Pairwise (fun x y => x.2.2 < y.2.2)) {p x : Item K P} (h : Le lt p x) {i k : Nat} (hi : i < M.length) (hk : k < M.length) (hp : at_ M i = p) (hx : at_ M k = x) :
    lt x.2.1 p.2.1 = false ∧ (lt p.2.1 x.2.1 = false → i ≤ k) := by
  unfold Le aheadB at h
  simp only [Bool.or_eq_false_iff, Bool.and_eq_false_iff, Bool.not_eq_false', decide_eq_false_iff_not] at h
  refine ⟨h.1, fun q => ?_⟩
  rcases h.2 with e | e
  · rw [q] at e; cases e
  · rcases Nat.lt_or_ge k i with g | g
    · exfalso
      have := List.pairwise_iff_getElem.1 ha k i hk hi g
      rw [← at_eq hk, ← at_eq hi, hp, hx] at this
      omega
    · exact g
end Go.Proofs.Ytibipbfmhbkpiaa.HeapP
