/- A heap's keys and the places at which they stand; Put and Drop over lists. Conditions: those that stand in each theorem. Written in this session. -/
import Derived.Test.YtibipbfmhbkpiaaHeapP
import Derived.Test.YtibipbfmhbkpiaaMapAt
namespace Go.Proofs.Ytibipbfmhbkpiaa.HeapP
open Go.Proofs.Ytibipbfmhbkpiaa.MapAt (upd rem)
set_option linter.unusedVariables false
set_option linter.unusedSectionVars false
set_option linter.unusedSimpArgs false
variable {K P : Type} [Inhabited K] [Inhabited P] [DecidableEq K]
def idxL (l : List (Item K P)) (k : K) : Option Nat := l.findIdx? (fun x => decide (x.1 = k))
def Keys (l : List (Item K P)) : Prop := (l.map (·.1)).Nodup
theorem Keys.perm {l l' : List (Item K P)} (h : Keys l) (hp : l'.Perm l) : Keys l' := by
  unfold Keys at *
  exact ((hp.map (fun x : Item K P => x.1)).nodup_iff).2 h
theorem idx_some {l : List (Item K P)} {k : K} {i : Nat} (h : idxL l k = some i) : i < l.length ∧ (at_ l i).1 = k := by
  unfold idxL at h
  rw [List.findIdx?_eq_some_iff_getElem] at h
  obtain ⟨hi, h1, _⟩ := h
  exact ⟨hi, by rw [at_eq hi]; simpa using h1⟩
theorem idx_none {l : List (Item K P)} {k : K} : idxL l k = none ↔ ∀ x ∈ l, x.1 ≠ k := by
  unfold idxL
  rw [List.findIdx?_eq_none_iff]
  constructor
  · intro h x hx
    have := h x hx
    simpa using this
  · intro h x hx
    simpa using h x hx
theorem key_inj {l : List (Item K P)} (h : Keys l) {i j : Nat} (hi : i < l.length) (hj : j < l.length) (e : (at_ l i).1 = (at_ l j).1) : i = j := by
  unfold Keys at h
  rw [at_eq hi, at_eq hj] at e
  have h1 : i < (l.map (·.1)).length := by simpa using hi
  have h2 : j < (l.map (·.1)).length := by simpa using hj
  rcases Nat.lt_trichotomy i j with q | q | q
  · have := List.pairwise_iff_getElem.1 h i j h1 h2 q
    simp at this
    exact absurd e this
  · exact q
  · have := List.pairwise_iff_getElem.1 h j i h2 h1 q
    simp at this
    exact absurd e.symm this
theorem idx_at {l : List (Item K P)} (h : Keys l) {i : Nat} (hi : i < l.length) : idxL l (at_ l i).1 = some i := by
  cases e : idxL l (at_ l i).1 with
  | none =>
    have := idx_none.1 e (at_ l i) (by rw [at_eq hi]; exact List.getElem_mem hi)
    exact absurd rfl this
  | some j =>
    obtain ⟨hj, hk⟩ := idx_some e
    rw [key_inj h hj hi hk]
theorem idx_iff {l : List (Item K P)} (h : Keys l) {k : K} {i : Nat} : idxL l k = some i ↔ i < l.length ∧ (at_ l i).1 = k := by
  constructor
  · exact idx_some
  · rintro ⟨hi, rfl⟩
    exact idx_at h hi
theorem idx_ext {l l' : List (Item K P)} {f : K → Option Nat} (h : Keys l) (h1 : ∀ k i, f k = some i ↔ i < l.length ∧ (at_ l i).1 = k) (k : K) : f k = idxL l k := by
  cases e : f k with
  | none =>
    cases e2 : idxL l k with
    | none => rfl
    | some i =>
      have := (h1 k i).2 (idx_some e2)
      rw [e] at this
      cases this
  | some i =>
    rw [(idx_iff h).2 ((h1 k i).1 e)]
theorem idx_swap {l : List (Item K P)} (h : Keys l) {i j : Nat} (hi : i < l.length) (hj : j < l.length) (k : K) : upd (upd (idxL l) (at_ l j).1 i) (at_ l i).1 j k = idxL (swapL l i j) k := by
  refine idx_ext (l' := l) (h.perm (swapL_perm l hi hj)) (fun k m => ?_) k
  rw [swapL_len]
  unfold upd
  by_cases e1 : k = (at_ l i).1
  · subst e1
    rw [if_pos rfl]
    constructor
    · intro q
      cases q
      exact ⟨hj, by rw [at_swap l hi hj hj, if_pos rfl]⟩
    · rintro ⟨hm, q⟩
      rw [at_swap l hi hj hm] at q
      by_cases e2 : m = j
      · rw [e2]
      · rw [if_neg e2] at q
        by_cases e3 : m = i
        · rw [if_pos e3] at q
          exact absurd (e3.trans (key_inj h hj hi q).symm) e2
        · rw [if_neg e3] at q
          exact absurd (key_inj h hm hi q) e3
  · rw [if_neg e1]
    by_cases e4 : k = (at_ l j).1
    · subst e4
      rw [if_pos rfl]
      constructor
      · intro q
        cases q
        refine ⟨hi, ?_⟩
        rw [at_swap l hi hj hi]
        by_cases e2 : i = j
        · rw [if_pos e2, e2]
        · rw [if_neg e2, if_pos rfl]
      · rintro ⟨hm, q⟩
        rw [at_swap l hi hj hm] at q
        by_cases e2 : m = j
        · rw [if_pos e2] at q
          exact absurd q.symm e1
        · rw [if_neg e2] at q
          by_cases e3 : m = i
          · rw [e3]
          · rw [if_neg e3] at q
            exact absurd (key_inj h hm hj q) e2
    · rw [if_neg e4, idx_iff h]
      constructor
      · rintro ⟨hm, q⟩
        refine ⟨hm, ?_⟩
        rw [at_swap l hi hj hm]
        by_cases e2 : m = j
        · subst e2
          exact absurd q.symm e4
        · rw [if_neg e2]
          by_cases e3 : m = i
          · subst e3
            exact absurd q.symm e1
          · rw [if_neg e3]
            exact q
      · rintro ⟨hm, q⟩
        refine ⟨hm, ?_⟩
        rw [at_swap l hi hj hm] at q
        by_cases e2 : m = j
        · rw [if_pos e2] at q
          exact absurd q.symm e1
        · rw [if_neg e2] at q
          by_cases e3 : m = i
          · rw [if_pos e3] at q
            exact absurd q.symm e4
          · rwa [if_neg e3] at q
theorem keys_append {l : List (Item K P)} (h : Keys l) {x : Item K P} (hx : idxL l x.1 = none) : Keys (l ++ [x]) := by
  unfold Keys at *
  rw [List.map_append, List.nodup_append]
  refine ⟨h, by simp, fun a ha b hb => ?_⟩
  simp at hb
  subst hb
  obtain ⟨y, hy, rfl⟩ := List.mem_map.1 ha
  exact idx_none.1 hx y hy
theorem at_append_last (l : List (Item K P)) (x : Item K P) : at_ (l ++ [x]) l.length = x := by
  unfold at_
  rw [List.getD_eq_getElem?_getD]
  simp
theorem idx_append {l : List (Item K P)} (h : Keys l) {x : Item K P} (hx : idxL l x.1 = none) (k : K) : upd (idxL l) x.1 l.length k = idxL (l ++ [x]) k := by
  refine idx_ext (l' := l) (keys_append h hx) (fun k m => ?_) k
  unfold upd
  by_cases e : k = x.1
  · subst e
    rw [if_pos rfl]
    constructor
    · intro q
      cases q
      exact ⟨by simp, by rw [at_append_last]⟩
    · rintro ⟨hm, q⟩
      have hm' : m < l.length + 1 := by simpa using hm
      by_cases e2 : m = l.length
      · rw [e2]
      · have hl : m < l.length := by omega
        rw [at_append l x hl] at q
        have := (idx_iff h).2 ⟨hl, q⟩
        rw [hx] at this
        cases this
  · rw [if_neg e, idx_iff h]
    constructor
    · rintro ⟨hm, q⟩
      exact ⟨by simp; omega, by rw [at_append l x hm]; exact q⟩
    · rintro ⟨hm, q⟩
      have hm' : m < l.length + 1 := by simpa using hm
      by_cases e2 : m = l.length
      · subst e2
        rw [at_append_last] at q
        exact absurd q.symm e
      · have hl : m < l.length := by omega
        rw [at_append l x hl] at q
        exact ⟨hl, q⟩
theorem keys_map_set {l : List (Item K P)} {i : Nat} {x : Item K P} (hi : i < l.length) (hx : (at_ l i).1 = x.1) : (l.set i x).map (·.1) = l.map (·.1) := by
  rw [List.map_set]
  apply List.ext_getElem
  · simp
  · intro m h1 h2
    rw [List.getElem_set]
    split
    · rename_i e
      subst e
      rw [List.getElem_map, ← hx, at_eq hi]
    · rfl
theorem keys_set {l : List (Item K P)} (h : Keys l) {i : Nat} {x : Item K P} (hi : i < l.length) (hx : (at_ l i).1 = x.1) : Keys (l.set i x) := by
  unfold Keys
  rw [keys_map_set hi hx]
  exact h
theorem idx_set {l : List (Item K P)} (h : Keys l) {i : Nat} {x : Item K P} (hi : i < l.length) (hx : (at_ l i).1 = x.1) (k : K) : idxL l k = idxL (l.set i x) k := by
  refine idx_ext (l' := l) (keys_set h hi hx) (fun k m => ?_) k
  rw [idx_iff h, List.length_set]
  constructor
  · rintro ⟨hm, q⟩
    refine ⟨hm, ?_⟩
    rw [at_set _ _ _ _ hm]
    split
    · rename_i e
      subst e
      rw [← hx]; exact q
    · exact q
  · rintro ⟨hm, q⟩
    refine ⟨hm, ?_⟩
    rw [at_set _ _ _ _ hm] at q
    split at q
    · rename_i e
      subst e
      rw [hx]; exact q
    · exact q
theorem keys_take {l : List (Item K P)} (h : Keys l) (n : Nat) : Keys (l.take n) := by
  unfold Keys at *
  rw [List.map_take]
  exact h.sublist (List.take_sublist _ _)
theorem idx_take {l : List (Item K P)} (h : Keys l) {n : Nat} (hn : l.length = n + 1) (k : K) : rem (idxL l) (at_ l n).1 k = idxL (l.take n) k := by
  refine idx_ext (l' := l) (keys_take h n) (fun k m => ?_) k
  have hlt : (l.take n).length = n := by simp; omega
  unfold rem
  rw [hlt]
  by_cases e : k = (at_ l n).1
  · subst e
    rw [if_pos rfl]
    constructor
    · intro q; cases q
    · rintro ⟨hm, q⟩
      rw [at_take l n hm] at q
      have := key_inj h (by omega) (by omega) q
      omega
  · rw [if_neg e, idx_iff h]
    constructor
    · rintro ⟨hm, q⟩
      have hmn : m ≠ n := fun e2 => e (by rw [← q, e2])
      exact ⟨by omega, by rw [at_take l n (by omega)]; exact q⟩
    · rintro ⟨hm, q⟩
      rw [at_take l n hm] at q
      exact ⟨by omega, q⟩
/-- Put of the how-manieth call c -/
def putL (lt : P → P → Bool) (l : List (Item K P)) (c : Int) (k : K) (r : P) : List (Item K P) :=
  match idxL l k with
  | some i => fixL lt (l.set i (k, r, c)) i
  | none => fixL lt (l ++ [(k, r, c)]) l.length
/-- Drop of the one at i -/
def dropL (lt : P → P → Bool) (l : List (Item K P)) (i : Nat) : List (Item K P) :=
  if i < l.length - 1 then fixL lt ((swapL l i (l.length - 1)).take (l.length - 1)) i else (swapL l i (l.length - 1)).take (l.length - 1)
theorem filter_none {l : List (Item K P)} {k : K} (h : idxL l k = none) : l.filter (fun x => decide (x.1 ≠ k)) = l := by
  rw [List.filter_eq_self]
  intro x hx
  simpa using idx_none.1 h x hx
theorem filter_erase {l : List (Item K P)} (h : Keys l) {k : K} {i : Nat} (hi : idxL l k = some i) : l.filter (fun x => decide (x.1 ≠ k)) = l.eraseIdx i := by
  induction l generalizing i with
  | nil => simp [idxL] at hi
  | cons y t ih =>
    have ht : Keys t := by unfold Keys at *; simp at h; exact h.2
    unfold idxL at hi
    rw [List.findIdx?_cons] at hi
    by_cases e : y.1 = k
    · simp [e] at hi
      subst hi
      rw [List.filter_cons_of_neg (by simp [e]), List.eraseIdx_zero, List.tail_cons, List.filter_eq_self]
      intro x hx
      unfold Keys at h
      rw [List.map_cons, List.nodup_cons] at h
      simp only [decide_eq_true_eq]
      intro q
      exact h.1 (List.mem_map.2 ⟨x, hx, by rw [q, e]⟩)
    · simp [e] at hi
      obtain ⟨j, hj, rfl⟩ := hi
      rw [List.filter_cons_of_pos (by simp [e]), List.eraseIdx_cons_succ, ih ht hj]
theorem set_perm {l : List (Item K P)} {i : Nat} (hi : i < l.length) (x : Item K P) : (l.set i x).Perm (l.eraseIdx i ++ [x]) := by
  rw [List.set_eq_take_append_cons_drop, if_pos hi, List.eraseIdx_eq_take_drop_succ]
  refine List.Perm.trans ?_ (List.perm_append_comm)
  exact List.perm_middle
theorem putL_perm (lt : P → P → Bool) {l : List (Item K P)} (h : Keys l) (c : Int) (k : K) (r : P) : (putL lt l c k r).Perm (l.filter (fun x => decide (x.1 ≠ k)) ++ [(k, r, c)]) := by
  unfold putL
  cases e : idxL l k with
  | none =>
    show (fixL lt (l ++ [(k, r, c)]) l.length).Perm _
    rw [filter_none e]
    exact fixL_perm lt _ (by simp)
  | some i =>
    show (fixL lt (l.set i (k, r, c)) i).Perm _
    rw [filter_erase h e]
    have hi := (idx_some e).1
    exact (fixL_perm lt _ (by simpa using hi)).trans (set_perm hi _)
theorem take_swap_perm {l : List (Item K P)} {i : Nat} (hi : i < l.length) : ((swapL l i (l.length - 1)).take (l.length - 1)).Perm (l.eraseIdx i) := by
  have hp := swapL_perm l hi (by omega : l.length - 1 < l.length)
  have hlen := swapL_len l i (l.length - 1)
  have hlast : (swapL l i (l.length - 1)) = (swapL l i (l.length - 1)).take (l.length - 1) ++ [at_ l i] := by
    apply List.ext_getElem?
    intro m
    by_cases hm : m < l.length
    · rw [at_get (by rw [hlen]; exact hm)]
      by_cases e : m = l.length - 1
      · rw [List.getElem?_append_right (by simp; omega), at_swap l hi (by omega) hm, if_pos e]
        simp [hlen, e]
      · rw [List.getElem?_append_left (by simp; omega), List.getElem?_take, if_pos (by omega), at_get (by rw [hlen]; exact hm)]
    · rw [List.getElem?_eq_none (by omega), List.getElem?_eq_none (by simp; omega)]
  have h2 : l.Perm (l.eraseIdx i ++ [at_ l i]) := by
    have := set_perm hi (at_ l i)
    have e : l.set i (at_ l i) = l := by rw [at_eq hi]; exact List.set_getElem_self hi
    rw [e] at this
    exact this
  have h3 := hp.trans h2
  rw [hlast] at h3
  exact (List.perm_append_right_iff _).1 h3
theorem dropL_perm (lt : P → P → Bool) {l : List (Item K P)} {i : Nat} (hi : i < l.length) : (dropL lt l i).Perm (l.eraseIdx i) := by
  unfold dropL
  split
  · rename_i h
    exact (fixL_perm lt _ (by simp [swapL_len]; omega)).trans (take_swap_perm hi)
  · exact take_swap_perm hi
theorem putL_ok {lt : P → P → Bool} (hw : Swo lt) {l : List (Item K P)} (h : HeapOK lt l) (c : Int) (k : K) (r : P) : HeapOK lt (putL lt l c k r) := by
  unfold putL
  cases e : idxL l k with
  | none => exact fix_ok hw (by simp) (append_up h _)
  | some i => exact fix_ok hw (by simpa using (idx_some e).1) (set_up hw h (idx_some e).1 _)
theorem take_swap_set {l : List (Item K P)} {i : Nat} (hi : i < l.length - 1) : (swapL l i (l.length - 1)).take (l.length - 1) = (l.take (l.length - 1)).set i (at_ l (l.length - 1)) := by
  apply List.ext_getElem?
  intro m
  rw [List.getElem?_take]
  by_cases hm : m < l.length - 1
  · rw [if_pos hm, at_get (by rw [swapL_len]; omega), at_get (by simp; omega), at_swap l (by omega) (by omega) (by omega), at_set _ _ _ _ (by simp; omega), if_neg (by omega), at_take l _ hm]
    by_cases e : m = i
    · subst e; simp
    · rw [if_neg e, if_neg (fun q => e q.symm)]
  · rw [if_neg hm, List.getElem?_eq_none (by simp; omega)]
theorem dropL_ok {lt : P → P → Bool} (hw : Swo lt) {l : List (Item K P)} (h : HeapOK lt l) {i : Nat} (hi : i < l.length) : HeapOK lt (dropL lt l i) := by
  unfold dropL
  split
  · rename_i hlt
    rw [take_swap_set hlt]
    exact fix_ok hw (by simp; omega) (set_up hw (take_ok h _) (by simp; omega) _)
  · rename_i hge
    have e : i = l.length - 1 := by omega
    subst e
    intro j h0 hj
    have hj' : j < l.length - 1 := by simp [swapL_len] at hj; omega
    rw [at_take _ _ hj', at_take _ _ (by omega), at_swap l hi hi (by omega), at_swap l hi hi (by omega), if_neg (by omega), if_neg (by omega), if_neg (by omega), if_neg (by omega)]
    exact h j h0 (by omega)
end Go.Proofs.Ytibipbfmhbkpiaa.HeapP
