/- A binary heap over lists, without a program: what up, down, put and drop leave. Conditions: those that stand in each theorem. Written in this session. -/
import Derived.ProofKit
namespace Go.Proofs.Ytibipbfmhbkpiaa.HeapP
set_option linter.unusedVariables false
set_option linter.unusedSectionVars false
set_option linter.unusedSimpArgs false
variable {K P : Type}
/-- a key, its rank, the how-manieth it came -/
abbrev Item (K P : Type) := K × P × Int
section
variable [Inhabited K] [Inhabited P]
def at_ (l : List (Item K P)) (i : Nat) : Item K P := l.getD i default
theorem at_eq {l : List (Item K P)} {i : Nat} (h : i < l.length) : at_ l i = l[i] := by
  unfold at_
  rw [List.getD_eq_getElem?_getD, List.getElem?_eq_getElem h]
  rfl
theorem at_get {l : List (Item K P)} {i : Nat} (h : i < l.length) : l[i]? = some (at_ l i) := by
  rw [at_eq h, List.getElem?_eq_getElem h]
def aheadB (lt : P → P → Bool) (a b : Item K P) : Bool := lt a.2.1 b.2.1 || (!lt b.2.1 a.2.1 && decide (a.2.2 < b.2.2))
def swapL (l : List (Item K P)) (i j : Nat) : List (Item K P) := (l.set i (at_ l j)).set j (at_ l i)
theorem swapL_len (l : List (Item K P)) (i j : Nat) : (swapL l i j).length = l.length := by simp [swapL]
def upL (lt : P → P → Bool) : Nat → List (Item K P) → Nat → List (Item K P) × Nat
  | 0, l, i => (l, i)
  | f + 1, l, i => if 0 < i ∧ aheadB lt (at_ l i) (at_ l ((i - 1) / 2)) = true then upL lt f (swapL l i ((i - 1) / 2)) ((i - 1) / 2) else (l, i)
def first1 (lt : P → P → Bool) (l : List (Item K P)) (i : Nat) : Nat := if 2 * i + 1 < l.length ∧ aheadB lt (at_ l (2 * i + 1)) (at_ l i) = true then 2 * i + 1 else i
def firstL (lt : P → P → Bool) (l : List (Item K P)) (i : Nat) : Nat := if 2 * i + 2 < l.length ∧ aheadB lt (at_ l (2 * i + 2)) (at_ l (first1 lt l i)) = true then 2 * i + 2 else first1 lt l i
def downL (lt : P → P → Bool) : Nat → List (Item K P) → Nat → List (Item K P)
  | 0, l, _ => l
  | f + 1, l, i => if firstL lt l i = i then l else downL lt f (swapL l i (firstL lt l i)) (firstL lt l i)
theorem upL_len (lt : P → P → Bool) : ∀ f (l : List (Item K P)) i, (upL lt f l i).1.length = l.length
  | 0, l, i => rfl
  | f + 1, l, i => by
    unfold upL
    split
    · rw [upL_len lt f, swapL_len]
    · rfl
theorem upL_le (lt : P → P → Bool) : ∀ f (l : List (Item K P)) i, (upL lt f l i).2 ≤ i
  | 0, l, i => Nat.le_refl _
  | f + 1, l, i => by
    unfold upL
    split
    · exact Nat.le_trans (upL_le lt f _ _) (by omega)
    · exact Nat.le_refl _
theorem downL_len (lt : P → P → Bool) : ∀ f (l : List (Item K P)) i, (downL lt f l i).length = l.length
  | 0, l, i => rfl
  | f + 1, l, i => by
    unfold downL
    split
    · rfl
    · rw [downL_len lt f, swapL_len]
theorem first1_lt (lt : P → P → Bool) (l : List (Item K P)) {i : Nat} (h : i < l.length) : first1 lt l i < l.length := by
  unfold first1
  split
  · omega
  · exact h
theorem firstL_lt (lt : P → P → Bool) (l : List (Item K P)) {i : Nat} (h : i < l.length) : firstL lt l i < l.length := by
  unfold firstL
  split
  · omega
  · exact first1_lt lt l h
theorem first1_or (lt : P → P → Bool) (l : List (Item K P)) (i : Nat) : first1 lt l i = i ∨ first1 lt l i = 2 * i + 1 := by
  unfold first1
  split
  · exact Or.inr rfl
  · exact Or.inl rfl
theorem firstL_or (lt : P → P → Bool) (l : List (Item K P)) (i : Nat) : firstL lt l i = i ∨ firstL lt l i = 2 * i + 1 ∨ firstL lt l i = 2 * i + 2 := by
  unfold firstL
  split
  · exact Or.inr (Or.inr rfl)
  · rcases first1_or lt l i with h | h
    · exact Or.inl h
    · exact Or.inr (Or.inl h)
theorem at_set (l : List (Item K P)) (i j : Nat) (x : Item K P) (hj : j < l.length) : at_ (l.set i x) j = if i = j then x else at_ l j := by
  rw [at_eq (by simpa using hj), List.getElem_set]
  split
  · rfl
  · rw [at_eq hj]
theorem at_swap (l : List (Item K P)) {i j k : Nat} (hi : i < l.length) (hj : j < l.length) (hk : k < l.length) : at_ (swapL l i j) k = if k = j then at_ l i else if k = i then at_ l j else at_ l k := by
  unfold swapL
  rw [at_set _ _ _ _ (by simpa using hk), at_set _ _ _ _ hk]
  by_cases h1 : j = k
  · subst h1; simp
  · by_cases h2 : i = k
    · subst h2
      simp [h1, Ne.symm h1]
    · simp [h1, h2, Ne.symm h1, Ne.symm h2]
theorem swapL_perm (l : List (Item K P)) {i j : Nat} (hi : i < l.length) (hj : j < l.length) : (swapL l i j).Perm l := by
  by_cases e : i = j
  · subst e
    have : swapL l i i = l := by
      apply List.ext_getElem? 
      intro k
      by_cases hk : k < l.length
      · rw [at_get (by rw [swapL_len]; exact hk), at_get hk, at_swap l hi hi hk]
        by_cases h : k = i
        · subst h; simp
        · simp [h]
      · rw [List.getElem?_eq_none (by rw [swapL_len]; omega), List.getElem?_eq_none (by omega)]
    rw [this]
  · unfold swapL
    rw [at_eq hi, at_eq hj]
    exact List.set_set_perm hi hj
theorem upL_perm (lt : P → P → Bool) : ∀ f (l : List (Item K P)) i, i < l.length → (upL lt f l i).1.Perm l
  | 0, l, i, _ => List.Perm.refl _
  | f + 1, l, i, h => by
    unfold upL
    split
    · exact (upL_perm lt f _ _ (by rw [swapL_len]; omega)).trans (swapL_perm l h (by omega))
    · exact List.Perm.refl _
theorem downL_perm (lt : P → P → Bool) : ∀ f (l : List (Item K P)) i, i < l.length → (downL lt f l i).Perm l
  | 0, l, i, _ => List.Perm.refl _
  | f + 1, l, i, h => by
    unfold downL
    split
    · exact List.Perm.refl _
    · exact (downL_perm lt f _ _ (by rw [swapL_len]; exact firstL_lt lt l h)).trans (swapL_perm l h (firstL_lt lt l h))
/-- down behind up: what Put and Drop do at place i -/
def fixL (lt : P → P → Bool) (l : List (Item K P)) (i : Nat) : List (Item K P) := downL lt l.length (upL lt i l i).1 (upL lt i l i).2
theorem fixL_len (lt : P → P → Bool) (l : List (Item K P)) (i : Nat) : (fixL lt l i).length = l.length := by unfold fixL; rw [downL_len, upL_len]
theorem fixL_perm (lt : P → P → Bool) (l : List (Item K P)) {i : Nat} (h : i < l.length) : (fixL lt l i).Perm l := by
  unfold fixL
  exact (downL_perm lt _ _ _ (by rw [upL_len]; exact Nat.lt_of_le_of_lt (upL_le lt i l i) h)).trans (upL_perm lt i l i h)
/-- an order as sort wants it -/
structure Swo (lt : P → P → Bool) : Prop where
  asymm : ∀ a b, lt a b = true → lt b a = false
  neg : ∀ a b c, lt a c = true → lt a b = true ∨ lt b c = true
theorem ahead_asymm {lt : P → P → Bool} (h : Swo lt) {a b : Item K P} (hab : aheadB lt a b = true) : aheadB lt b a = false := by
  unfold aheadB at *
  cases h1 : lt a.2.1 b.2.1 with
  | true =>
    have h2 := h.asymm _ _ h1
    simp [h1, h2]
  | false =>
    rw [h1] at hab
    simp at hab
    simp [hab.1]
    omega
theorem ahead_neg {lt : P → P → Bool} (h : Swo lt) {a b c : Item K P} (hab : aheadB lt a b = false) (hbc : aheadB lt b c = false) : aheadB lt a c = false := by
  unfold aheadB at *
  simp only [Bool.or_eq_false_iff, Bool.and_eq_false_iff, Bool.not_eq_false', decide_eq_false_iff_not] at hab hbc ⊢
  obtain ⟨h1, h2⟩ := hab
  obtain ⟨h3, h4⟩ := hbc
  have h5 : lt a.2.1 c.2.1 = false := by
    cases e : lt a.2.1 c.2.1 with
    | false => rfl
    | true =>
      rcases h.neg _ b.2.1 _ e with q | q
      · rw [h1] at q; cases q
      · rw [h3] at q; cases q
  refine ⟨h5, ?_⟩
  cases e : lt c.2.1 a.2.1 with
  | true => exact Or.inl rfl
  | false =>
    right
    have h6 : ¬ a.2.2 < b.2.2 := by
      rcases h2 with q | q
      · rcases h.neg _ c.2.1 _ q with r | r
        · rw [h3] at r; cases r
        · rw [e] at r; cases r
      · exact q
    have h7 : ¬ b.2.2 < c.2.2 := by
      rcases h4 with q | q
      · rcases h.neg _ a.2.1 _ q with r | r
        · rw [e] at r; cases r
        · rw [h1] at r; cases r
      · exact q
    omega
/-- a is not behind b -/
def Le (lt : P → P → Bool) (a b : Item K P) : Prop := aheadB lt b a = false
theorem Le.trans {lt : P → P → Bool} (h : Swo lt) {a b c : Item K P} (h1 : Le lt a b) (h2 : Le lt b c) : Le lt a c := ahead_neg h h2 h1
theorem Le.of {lt : P → P → Bool} (h : Swo lt) {a b : Item K P} (h1 : aheadB lt a b = true) : Le lt a b := ahead_asymm h h1
theorem Le.refl {lt : P → P → Bool} (h : Swo lt) (a : Item K P) : Le lt a a := by
  unfold Le
  cases e : aheadB lt a a with
  | false => rfl
  | true => rw [ahead_asymm h e] at e; cases e
theorem Le.not {lt : P → P → Bool} {a b : Item K P} (h : ¬ aheadB lt b a = true) : Le lt a b := by
  unfold Le
  simpa using h
def HeapOK (lt : P → P → Bool) (l : List (Item K P)) : Prop := ∀ j, 0 < j → j < l.length → Le lt (at_ l ((j - 1) / 2)) (at_ l j)
structure DownOK (lt : P → P → Bool) (l : List (Item K P)) (i : Nat) : Prop where
  e : ∀ j, 0 < j → j < l.length → (j - 1) / 2 ≠ i → Le lt (at_ l ((j - 1) / 2)) (at_ l j)
  g : ∀ j, 0 < j → j < l.length → (j - 1) / 2 = i → 0 < i → Le lt (at_ l ((i - 1) / 2)) (at_ l j)
structure UpOK (lt : P → P → Bool) (l : List (Item K P)) (i : Nat) : Prop where
  e : ∀ j, 0 < j → j < l.length → j ≠ i → (j - 1) / 2 ≠ i → Le lt (at_ l ((j - 1) / 2)) (at_ l j)
  g : ∀ j, 0 < j → j < l.length → (j - 1) / 2 = i → 0 < i → Le lt (at_ l ((i - 1) / 2)) (at_ l j)
theorem up_step {lt : P → P → Bool} (hw : Swo lt) {l : List (Item K P)} {i : Nat} (hi : i < l.length) (h0 : 0 < i) (h : UpOK lt l i) : UpOK lt (swapL l i ((i - 1) / 2)) ((i - 1) / 2) := by
  have hp : (i - 1) / 2 < l.length := by omega
  constructor
  · intro j hj0 hj hjp hjq
    rw [swapL_len] at hj
    have hji : j ≠ i := fun e => hjq (by rw [e])
    rw [at_swap l hi hp (by omega : (j - 1) / 2 < l.length), at_swap l hi hp hj, if_neg hjp, if_neg hji, if_neg hjq]
    by_cases e : (j - 1) / 2 = i
    · rw [if_pos e]
      exact h.g j hj0 hj e h0
    · rw [if_neg e]
      exact h.e j hj0 hj hji e
  · intro j hj0 hj hjp hp0
    rw [swapL_len] at hj
    have hpp : ((i - 1) / 2 - 1) / 2 < l.length := by omega
    rw [at_swap l hi hp hpp, if_neg (by omega), if_neg (by omega), at_swap l hi hp hj, if_neg (by omega : j ≠ (i - 1) / 2)]
    have e1 := h.e ((i - 1) / 2) hp0 hp (by omega) (by omega)
    by_cases e : j = i
    · rw [if_pos e]
      exact e1
    · rw [if_neg e]
      have e2 := h.e j hj0 hj e (by omega)
      rw [hjp] at e2
      exact e1.trans hw e2
theorem up_ok {lt : P → P → Bool} (hw : Swo lt) : ∀ f (l : List (Item K P)) i, i ≤ f → i < l.length → UpOK lt l i → DownOK lt (upL lt f l i).1 (upL lt f l i).2
  | 0, l, i, hf, hi, h => by
    have : i = 0 := by omega
    subst this
    unfold upL
    exact ⟨fun j h0 hj hp => h.e j h0 hj (by omega) hp, fun j h0 hj hp h1 => absurd h1 (by omega)⟩
  | f + 1, l, i, hf, hi, h => by
    unfold upL
    split
    · rename_i hc
      exact up_ok hw f _ _ (by omega) (by rw [swapL_len]; omega) (up_step hw hi hc.1 h)
    · rename_i hc
      refine ⟨fun j h0 hj hp => ?_, h.g⟩
      by_cases e : j = i
      · subst e
        by_cases h1 : aheadB lt (at_ l j) (at_ l ((j - 1) / 2)) = true
        · exact absurd ⟨h0, h1⟩ hc
        · exact Le.not h1
      · exact h.e j h0 hj e hp
theorem first_least {lt : P → P → Bool} (hw : Swo lt) (l : List (Item K P)) (i : Nat) : Le lt (at_ l (firstL lt l i)) (at_ l i) ∧ (∀ c, c = 2 * i + 1 ∨ c = 2 * i + 2 → c < l.length → Le lt (at_ l (firstL lt l i)) (at_ l c)) ∧ (firstL lt l i ≠ i → firstL lt l i < l.length) := by
  have h1 : Le lt (at_ l (first1 lt l i)) (at_ l i) ∧ (2 * i + 1 < l.length → Le lt (at_ l (first1 lt l i)) (at_ l (2 * i + 1))) ∧ (first1 lt l i ≠ i → first1 lt l i < l.length) := by
    unfold first1
    split
    · rename_i hc
      exact ⟨Le.of hw hc.2, fun _ => Le.refl hw _, fun _ => hc.1⟩
    · rename_i hc
      exact ⟨Le.refl hw _, fun h => Le.not (fun e => hc ⟨h, e⟩), fun h => absurd rfl h⟩
  unfold firstL
  split
  · rename_i hc
    refine ⟨(Le.of hw hc.2).trans hw h1.1, fun c hcc hl => ?_, fun _ => hc.1⟩
    rcases hcc with e | e
    · subst e
      exact (Le.of hw hc.2).trans hw (h1.2.1 hl)
    · subst e
      exact Le.refl hw _
  · rename_i hc
    refine ⟨h1.1, fun c hcc hl => ?_, h1.2.2⟩
    rcases hcc with e | e
    · subst e
      exact h1.2.1 hl
    · subst e
      exact Le.not (fun e => hc ⟨hl, e⟩)
theorem down_step {lt : P → P → Bool} (hw : Swo lt) {l : List (Item K P)} {i : Nat} (hi : i < l.length) (hne : firstL lt l i ≠ i) (h : DownOK lt l i) : DownOK lt (swapL l i (firstL lt l i)) (firstL lt l i) := by
  obtain ⟨m1, m2, m3⟩ := first_least hw l i
  have hor := firstL_or lt l i
  generalize firstL lt l i = j at *
  have hj : j < l.length := m3 hne
  have hji : (j - 1) / 2 = i := by omega
  constructor
  · intro k hk0 hk hkp
    rw [swapL_len] at hk
    rw [at_swap l hi hj (by omega : (k - 1) / 2 < l.length), if_neg hkp, at_swap l hi hj hk]
    by_cases e : k = j
    · subst e
      rw [if_pos rfl, if_pos hji]
      exact m1
    · rw [if_neg e]
      by_cases e1 : (k - 1) / 2 = i
      · rw [if_pos e1, if_neg (by omega : k ≠ i)]
        exact m2 k (by omega) hk
      · rw [if_neg e1]
        by_cases e2 : k = i
        · subst e2
          rw [if_pos rfl]
          exact h.g j (by omega) hj hji hk0
        · rw [if_neg e2]
          exact h.e k hk0 hk e1
  · intro k hk0 hk hkp hj0
    rw [swapL_len] at hk
    rw [hji, at_swap l hi hj hi, if_neg (fun e => hne e.symm), if_pos rfl, at_swap l hi hj hk, if_neg (by omega : k ≠ j), if_neg (by omega : k ≠ i)]
    have := h.e k hk0 hk (by omega)
    rw [hkp] at this
    exact this
theorem down_ok {lt : P → P → Bool} (hw : Swo lt) : ∀ f (l : List (Item K P)) i, l.length ≤ f + i → i < l.length → DownOK lt l i → HeapOK lt (downL lt f l i)
  | 0, l, i, hf, hi, h => absurd hf (by omega)
  | f + 1, l, i, hf, hi, h => by
    unfold downL
    obtain ⟨m1, m2, m3⟩ := first_least hw l i
    split
    · rename_i hc
      intro j h0 hj
      by_cases e : (j - 1) / 2 = i
      · rw [hc] at m2
        rw [e]
        exact m2 j (by omega) hj
      · exact h.e j h0 hj e
    · rename_i hc
      have := firstL_or lt l i
      exact down_ok hw f _ _ (by rw [swapL_len]; omega) (by rw [swapL_len]; exact m3 hc) (down_step hw hi hc h)
theorem fix_ok {lt : P → P → Bool} (hw : Swo lt) {l : List (Item K P)} {i : Nat} (hi : i < l.length) (h : UpOK lt l i) : HeapOK lt (fixL lt l i) := by
  unfold fixL
  refine down_ok hw _ _ _ (by rw [upL_len]; omega) (by rw [upL_len]; exact Nat.lt_of_le_of_lt (upL_le lt i l i) hi) (up_ok hw i l i (Nat.le_refl _) hi h)
theorem heap_min {lt : P → P → Bool} (hw : Swo lt) {l : List (Item K P)} (h : HeapOK lt l) : ∀ n i, i ≤ n → i < l.length → Le lt (at_ l 0) (at_ l i)
  | 0, i, hn, hi => by
    have : i = 0 := by omega
    subst this
    exact Le.refl hw _
  | n + 1, i, hn, hi => by
    by_cases e : i = 0
    · subst e
      exact Le.refl hw _
    · exact (heap_min hw h n ((i - 1) / 2) (by omega) (by omega)).trans hw (h i (by omega) hi)
theorem set_up {lt : P → P → Bool} (hw : Swo lt) {l : List (Item K P)} (h : HeapOK lt l) {i : Nat} (hi : i < l.length) (x : Item K P) : UpOK lt (l.set i x) i := by
  constructor
  · intro j h0 hj hji hp
    rw [List.length_set] at hj
    rw [at_set _ _ _ _ (by omega : (j - 1) / 2 < l.length), at_set _ _ _ _ hj, if_neg (show ¬ i = j from fun e => hji e.symm), if_neg (show ¬ i = (j - 1) / 2 from fun e => hp e.symm)]
    exact h j h0 hj
  · intro j h0 hj hp hi0
    rw [List.length_set] at hj
    rw [at_set _ _ _ _ (by omega : (i - 1) / 2 < l.length), at_set _ _ _ _ hj, if_neg (show ¬ i = j by omega), if_neg (show ¬ i = (i - 1) / 2 by omega)]
    have e1 := h i hi0 hi
    have e2 := h j h0 hj
    rw [hp] at e2
    exact e1.trans hw e2
theorem at_append (l : List (Item K P)) (x : Item K P) {j : Nat} (hj : j < l.length) : at_ (l ++ [x]) j = at_ l j := by
  unfold at_
  rw [List.getD_eq_getElem?_getD, List.getD_eq_getElem?_getD, List.getElem?_append_left hj]
theorem append_up {lt : P → P → Bool} {l : List (Item K P)} (h : HeapOK lt l) (x : Item K P) : UpOK lt (l ++ [x]) l.length := by
  constructor
  · intro j h0 hj hji hp
    have hj' : j < l.length := by simp at hj; omega
    rw [at_append l x hj', at_append l x (by omega)]
    exact h j h0 hj'
  · intro j h0 hj hp hi0
    simp at hj
    omega
theorem at_take (l : List (Item K P)) (n : Nat) {j : Nat} (hj : j < n) : at_ (l.take n) j = at_ l j := by
  unfold at_
  rw [List.getD_eq_getElem?_getD, List.getD_eq_getElem?_getD, List.getElem?_take, if_pos hj]
theorem take_ok {lt : P → P → Bool} {l : List (Item K P)} (h : HeapOK lt l) (n : Nat) : HeapOK lt (l.take n) := by
  intro j h0 hj
  simp at hj
  rw [at_take l n (by omega), at_take l n (by omega)]
  exact h j h0 (by omega)
end
end Go.Proofs.Ytibipbfmhbkpiaa.HeapP
