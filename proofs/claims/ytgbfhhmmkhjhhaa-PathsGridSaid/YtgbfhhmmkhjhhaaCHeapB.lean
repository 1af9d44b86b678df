/- A binary heap over lists, without a program: what up, down, put and drop leave. Conditions: those that stand in each theorem. Written in this session. -/
import Derived.ProofKit
import Derived.Maps.Own
import Derived.Test.YtgbfhhmmkhjhhaaWWords
import Derived.Test.YtgbfhhmmkhjhhaaProg
import Derived.Test.YtgbfhhmmkhjhhaaWMore
import Derived.Test.YtgbfhhmmkhjhhaaWLast
import Derived.Deep.LoopGhost
import Derived.Deep.DeepCutAuto
import Derived.Deep.QuietTactic
import Derived.Laws.CopyOwn
import Derived.Maps.AppendAt
namespace Go.Proofs.Ytgbfhhmmkhjhhaa.HeapP
set_option linter.unusedVariables false
set_option linter.unusedSectionVars false
set_option linter.unusedSimpArgs false
variable {K P : Type}
/-- a key, its rank, the how-manieth it came -/
abbrev Item (K P : Type) := K × P × Int
section
variable [Inhabited K] [Inhabited P]
def at_ (l : List (Item K P)) (i : Nat) : Item K P := l.getD i default
theorem at_eq {l : List (Item K P)} {i : Nat} (h : i < l.length) : at_ l i = l[i] := by
  unfold at_
  rw [List.getD_eq_getElem?_getD, List.getElem?_eq_getElem h]
  rfl
theorem at_get {l : List (Item K P)} {i : Nat} (h : i < l.length) : l[i]? = some (at_ l i) := by
  rw [at_eq h, List.getElem?_eq_getElem h]
def aheadB (lt : P → P → Bool) (a b : Item K P) : Bool := lt a.2.1 b.2.1 || (!lt b.2.1 a.2.1 && decide (a.2.2 < b.2.2))
def swapL (l : List (Item K P)) (i j : Nat) : List (Item K P) := (l.set i (at_ l j)).set j (at_ l i)
theorem swapL_len (l : List (Item K P)) (i j : Nat) : (swapL l i j).length = l.length := by simp [swapL]
def upL (lt : P → P → Bool) : Nat → List (Item K P) → Nat → List (Item K P) × Nat
  | 0, l, i => (l, i)
  | f + 1, l, i => if 0 < i ∧ aheadB lt (at_ l i) (at_ l ((i - 1) / 2)) = true then upL lt f (swapL l i ((i - 1) / 2)) ((i - 1) / 2) else (l, i)
def first1 (lt : P → P → Bool) (l : List (Item K P)) (i : Nat) : Nat := if 2 * i + 1 < l.length ∧ aheadB lt (at_ l (2 * i + 1)) (at_ l i) = true then 2 * i + 1 else i
def firstL (lt : P → P → Bool) (l : List (Item K P)) (i : Nat) : Nat := if 2 * i + 2 < l.length ∧ aheadB lt (at_ l (2 * i + 2)) (at_ l (first1 lt l i)) = true then 2 * i + 2 else first1 lt l i
def downL (lt : P → P → Bool) : Nat → List (Item K P) → Nat → List (Item K P)
  | 0, l, _ => l
  | f + 1, l, i => if firstL lt l i = i then l else downL lt f (swapL l i (firstL lt l i)) (firstL lt l i)
theorem upL_len (lt : P → P → Bool) : ∀ f (l : List (Item K P)) i, (upL lt f l i).1.length = l.length
  | 0, l, i => rfl
  | f + 1, l, i => by
    unfold upL
    split
    · rw [upL_len lt f, swapL_len]
    · rfl
theorem upL_le (lt : P → P → Bool) : ∀ f (l : List (Item K P)) i, (upL lt f l i).2 ≤ i
  | 0, l, i => Nat.le_refl _
  | f + 1, l, i => by
    unfold upL
    split
    · exact Nat.le_trans (upL_le lt f _ _) (by omega)
    · exact Nat.le_refl _
theorem downL_len (lt : P → P → Bool) : ∀ f (l : List (Item K P)) i, (downL lt f l i).length = l.length
  | 0, l, i => rfl
  | f + 1, l, i => by
    unfold downL
    split
    · rfl
    · rw [downL_len lt f, swapL_len]
theorem first1_lt (lt : P → P → Bool) (l : List (Item K P)) {i : Nat} (h : i < l.length) : first1 lt l i < l.length := by
  unfold first1
  split
  · omega
  · exact h
theorem firstL_lt (lt : P → P → Bool) (l : List (Item K P)) {i : Nat} (h : i < l.length) : firstL lt l i < l.length := by
  unfold firstL
  split
  · omega
  · exact first1_lt lt l h
theorem first1_or (lt : P → P → Bool) (l : List (Item K P)) (i : Nat) : first1 lt l i = i ∨ first1 lt l i = 2 * i + 1 := by
  unfold first1
  split
  · exact Or.inr rfl
  · exact Or.inl rfl
theorem firstL_or (lt : P → P → Bool) (l : List (Item K P)) (i : Nat) : firstL lt l i = i ∨ firstL lt l i = 2 * i + 1 ∨ firstL lt l i = 2 * i + 2 := by
  unfold firstL
  split
  · exact Or.inr (Or.inr rfl)
  · rcases first1_or lt l i with h | h
    · exact Or.inl h
    · exact Or.inr (Or.inl h)
theorem at_set (l : List (Item K P)) (i j : Nat) (x : Item K P) (hj : j < l.length) : at_ (l.set i x) j = if i = j then x else at_ l j := by
  rw [at_eq (by simpa using hj), List.getElem_set]
  split
  · rfl
  · rw [at_eq hj]
theorem at_swap (l : List (Item K P)) {i j k : Nat} (hi : i < l.length) (hj : j < l.length) (hk : k < l.length) : at_ (swapL l i j) k = if k = j then at_ l i else if k = i then at_ l j else at_ l k := by
  unfold swapL
  rw [at_set _ _ _ _ (by simpa using hk), at_set _ _ _ _ hk]
  by_cases h1 : j = k
  · subst h1; simp
  · by_cases h2 : i = k
    · subst h2
      simp [h1, Ne.symm h1]
    · simp [h1, h2, Ne.symm h1, Ne.symm h2]
theorem swapL_perm (l : List (Item K P)) {i j : Nat} (hi : i < l.length) (hj : j < l.length) : (swapL l i j).Perm l := by
  by_cases e : i = j
  · subst e
    have : swapL l i i = l := by
      apply List.ext_getElem? 
      intro k
      by_cases hk : k < l.length
      · rw [at_get (by rw [swapL_len]; exact hk), at_get hk, at_swap l hi hi hk]
        by_cases h : k = i
        · subst h; simp
        · simp [h]
      · rw [List.getElem?_eq_none (by rw [swapL_len]; omega), List.getElem?_eq_none (by omega)]
    rw [this]
  · unfold swapL
    rw [at_eq hi, at_eq hj]
    exact List.set_set_perm hi hj
theorem upL_perm (lt : P → P → Bool) : ∀ f (l : List (Item K P)) i, i < l.length → (upL lt f l i).1.Perm l
  | 0, l, i, _ => List.Perm.refl _
  | f + 1, l, i, h => by
    unfold upL
    split
    · exact (upL_perm lt f _ _ (by rw [swapL_len]; omega)).trans (swapL_perm l h (by omega))
    · exact List.Perm.refl _
theorem downL_perm (lt : P → P → Bool) : ∀ f (l : List (Item K P)) i, i < l.length → (downL lt f l i).Perm l
  | 0, l, i, _ => List.Perm.refl _
  | f + 1, l, i, h => by
    unfold downL
    split
    · exact List.Perm.refl _
    · exact (downL_perm lt f _ _ (by rw [swapL_len]; exact firstL_lt lt l h)).trans (swapL_perm l h (firstL_lt lt l h))
/-- down behind up: what Put and Drop do at place i -/
def fixL (lt : P → P → Bool) (l : List (Item K P)) (i : Nat) : List (Item K P) := downL lt l.length (upL lt i l i).1 (upL lt i l i).2
theorem fixL_len (lt : P → P → Bool) (l : List (Item K P)) (i : Nat) : (fixL lt l i).length = l.length := by unfold fixL; rw [downL_len, upL_len]
theorem fixL_perm (lt : P → P → Bool) (l : List (Item K P)) {i : Nat} (h : i < l.length) : (fixL lt l i).Perm l := by
  unfold fixL
  exact (downL_perm lt _ _ _ (by rw [upL_len]; exact Nat.lt_of_le_of_lt (upL_le lt i l i) h)).trans (upL_perm lt i l i h)
/-- an order as sort wants it -/
structure Swo (lt : P → P → Bool) : Prop where
  asymm : ∀ a b, lt a b = true → lt b a = false
  neg : ∀ a b c, lt a c = true → lt a b = true ∨ lt b c = true
theorem ahead_asymm {lt : P → P → Bool} (h : Swo lt) {a b : Item K P} (hab : aheadB lt a b = true) : aheadB lt b a = false := by
  unfold aheadB at *
  cases h1 : lt a.2.1 b.2.1 with
  | true =>
    have h2 := h.asymm _ _ h1
    simp [h1, h2]
  | false =>
    rw [h1] at hab
    simp at hab
    simp [hab.1]
    omega
theorem ahead_neg {lt : P → P → Bool} (h : Swo lt) {a b c : Item K P} (hab : aheadB lt a b = false) (hbc : aheadB lt b c = false) : aheadB lt a c = false := by
  unfold aheadB at *
  simp only [Bool.or_eq_false_iff, Bool.and_eq_false_iff, Bool.not_eq_false', decide_eq_false_iff_not] at hab hbc ⊢
  obtain ⟨h1, h2⟩ := hab
  obtain ⟨h3, h4⟩ := hbc
  have h5 : lt a.2.1 c.2.1 = false := by
    cases e : lt a.2.1 c.2.1 with
    | false => rfl
    | true =>
      rcases h.neg _ b.2.1 _ e with q | q
      · rw [h1] at q; cases q
      · rw [h3] at q; cases q
  refine ⟨h5, ?_⟩
  cases e : lt c.2.1 a.2.1 with
  | true => exact Or.inl rfl
  | false =>
    right
    have h6 : ¬ a.2.2 < b.2.2 := by
      rcases h2 with q | q
      · rcases h.neg _ c.2.1 _ q with r | r
        · rw [h3] at r; cases r
        · rw [e] at r; cases r
      · exact q
    have h7 : ¬ b.2.2 < c.2.2 := by
      rcases h4 with q | q
      · rcases h.neg _ a.2.1 _ q with r | r
        · rw [e] at r; cases r
        · rw [h1] at r; cases r
      · exact q
    omega
/-- a is not behind b -/
def Le (lt : P → P → Bool) (a b : Item K P) : Prop := aheadB lt b a = false
theorem Le.trans {lt : P → P → Bool} (h : Swo lt) {a b c : Item K P} (h1 : Le lt a b) (h2 : Le lt b c) : Le lt a c := ahead_neg h h2 h1
theorem Le.of {lt : P → P → Bool} (h : Swo lt) {a b : Item K P} (h1 : aheadB lt a b = true) : Le lt a b := ahead_asymm h h1
theorem Le.refl {lt : P → P → Bool} (h : Swo lt) (a : Item K P) : Le lt a a := by
  unfold Le
  cases e : aheadB lt a a with
  | false => rfl
  | true => rw [ahead_asymm h e] at e; cases e
theorem Le.not {lt : P → P → Bool} {a b : Item K P} (h : ¬ aheadB lt b a = true) : Le lt a b := by
  unfold Le
  simpa using h
def HeapOK (lt : P → P → Bool) (l : List (Item K P)) : Prop := ∀ j, 0 < j → j < l.length → Le lt (at_ l ((j - 1) / 2)) (at_ l j)
structure DownOK (lt : P → P → Bool) (l : List (Item K P)) (i : Nat) : Prop where
  e : ∀ j, 0 < j → j < l.length → (j - 1) / 2 ≠ i → Le lt (at_ l ((j - 1) / 2)) (at_ l j)
  g : ∀ j, 0 < j → j < l.length → (j - 1) / 2 = i → 0 < i → Le lt (at_ l ((i - 1) / 2)) (at_ l j)
structure UpOK (lt : P → P → Bool) (l : List (Item K P)) (i : Nat) : Prop where
  e : ∀ j, 0 < j → j < l.length → j ≠ i → (j - 1) / 2 ≠ i → Le lt (at_ l ((j - 1) / 2)) (at_ l j)
  g : ∀ j, 0 < j → j < l.length → (j - 1) / 2 = i → 0 < i → Le lt (at_ l ((i - 1) / 2)) (at_ l j)
theorem up_step {lt : P → P → Bool} (hw : Swo lt) {l : List (Item K P)} {i : Nat} (hi : i < l.length) (h0 : 0 < i) (h : UpOK lt l i) : UpOK lt (swapL l i ((i - 1) / 2)) ((i - 1) / 2) := by
  have hp : (i - 1) / 2 < l.length := by omega
  constructor
  · intro j hj0 hj hjp hjq
    rw [swapL_len] at hj
    have hji : j ≠ i := fun e => hjq (by rw [e])
    rw [at_swap l hi hp (by omega : (j - 1) / 2 < l.length), at_swap l hi hp hj, if_neg hjp, if_neg hji, if_neg hjq]
    by_cases e : (j - 1) / 2 = i
    · rw [if_pos e]
      exact h.g j hj0 hj e h0
    · rw [if_neg e]
      exact h.e j hj0 hj hji e
  · intro j hj0 hj hjp hp0
    rw [swapL_len] at hj
    have hpp : ((i - 1) / 2 - 1) / 2 < l.length := by omega
    rw [at_swap l hi hp hpp, if_neg (by omega), if_neg (by omega), at_swap l hi hp hj, if_neg (by omega : j ≠ (i - 1) / 2)]
    have e1 := h.e ((i - 1) / 2) hp0 hp (by omega) (by omega)
    by_cases e : j = i
    · rw [if_pos e]
      exact e1
    · rw [if_neg e]
      have e2 := h.e j hj0 hj e (by omega)
      rw [hjp] at e2
      exact e1.trans hw e2
theorem up_ok {lt : P → P → Bool} (hw : Swo lt) : ∀ f (l : List (Item K P)) i, i ≤ f → i < l.length → UpOK lt l i → DownOK lt (upL lt f l i).1 (upL lt f l i).2
  | 0, l, i, hf, hi, h => by
    have : i = 0 := by omega
    subst this
    unfold upL
    exact ⟨fun j h0 hj hp => h.e j h0 hj (by omega) hp, fun j h0 hj hp h1 => absurd h1 (by omega)⟩
  | f + 1, l, i, hf, hi, h => by
    unfold upL
    split
    · rename_i hc
      exact up_ok hw f _ _ (by omega) (by rw [swapL_len]; omega) (up_step hw hi hc.1 h)
    · rename_i hc
      refine ⟨fun j h0 hj hp => ?_, h.g⟩
      by_cases e : j = i
      · subst e
        by_cases h1 : aheadB lt (at_ l j) (at_ l ((j - 1) / 2)) = true
        · exact absurd ⟨h0, h1⟩ hc
        · exact Le.not h1
      · exact h.e j h0 hj e hp
theorem first_least {lt : P → P → Bool} (hw : Swo lt) (l : List (Item K P)) (i : Nat) : Le lt (at_ l (firstL lt l i)) (at_ l i) ∧ (∀ c, c = 2 * i + 1 ∨ c = 2 * i + 2 → c < l.length → Le lt (at_ l (firstL lt l i)) (at_ l c)) ∧ (firstL lt l i ≠ i → firstL lt l i < l.length) := by
  have h1 : Le lt (at_ l (first1 lt l i)) (at_ l i) ∧ (2 * i + 1 < l.length → Le lt (at_ l (first1 lt l i)) (at_ l (2 * i + 1))) ∧ (first1 lt l i ≠ i → first1 lt l i < l.length) := by
    unfold first1
    split
    · rename_i hc
      exact ⟨Le.of hw hc.2, fun _ => Le.refl hw _, fun _ => hc.1⟩
    · rename_i hc
      exact ⟨Le.refl hw _, fun h => Le.not (fun e => hc ⟨h, e⟩), fun h => absurd rfl h⟩
  unfold firstL
  split
  · rename_i hc
    refine ⟨(Le.of hw hc.2).trans hw h1.1, fun c hcc hl => ?_, fun _ => hc.1⟩
    rcases hcc with e | e
    · subst e
      exact (Le.of hw hc.2).trans hw (h1.2.1 hl)
    · subst e
      exact Le.refl hw _
  · rename_i hc
    refine ⟨h1.1, fun c hcc hl => ?_, h1.2.2⟩
    rcases hcc with e | e
    · subst e
      exact h1.2.1 hl
    · subst e
      exact Le.not (fun e => hc ⟨hl, e⟩)
theorem down_step {lt : P → P → Bool} (hw : Swo lt) {l : List (Item K P)} {i : Nat} (hi : i < l.length) (hne : firstL lt l i ≠ i) (h : DownOK lt l i) : DownOK lt (swapL l i (firstL lt l i)) (firstL lt l i) := by
  obtain ⟨m1, m2, m3⟩ := first_least hw l i
  have hor := firstL_or lt l i
  generalize firstL lt l i = j at *
  have hj : j < l.length := m3 hne
  have hji : (j - 1) / 2 = i := by omega
  constructor
  · intro k hk0 hk hkp
    rw [swapL_len] at hk
    rw [at_swap l hi hj (by omega : (k - 1) / 2 < l.length), if_neg hkp, at_swap l hi hj hk]
    by_cases e : k = j
    · subst e
      rw [if_pos rfl, if_pos hji]
      exact m1
    · rw [if_neg e]
      by_cases e1 : (k - 1) / 2 = i
      · rw [if_pos e1, if_neg (by omega : k ≠ i)]
        exact m2 k (by omega) hk
      · rw [if_neg e1]
        by_cases e2 : k = i
        · subst e2
          rw [if_pos rfl]
          exact h.g j (by omega) hj hji hk0
        · rw [if_neg e2]
          exact h.e k hk0 hk e1
  · intro k hk0 hk hkp hj0
    rw [swapL_len] at hk
    rw [hji, at_swap l hi hj hi, if_neg (fun e => hne e.symm), if_pos rfl, at_swap l hi hj hk, if_neg (by omega : k ≠ j), if_neg (by omega : k ≠ i)]
    have := h.e k hk0 hk (by omega)
    rw [hkp] at this
    exact this
theorem down_ok {lt : P → P → Bool} (hw : Swo lt) : ∀ f (l : List (Item K P)) i, l.length ≤ f + i → i < l.length → DownOK lt l i → HeapOK lt (downL lt f l i)
  | 0, l, i, hf, hi, h => absurd hf (by omega)
  | f + 1, l, i, hf, hi, h => by
    unfold downL
    obtain ⟨m1, m2, m3⟩ := first_least hw l i
    split
    · rename_i hc
      intro j h0 hj
      by_cases e : (j - 1) / 2 = i
      · rw [hc] at m2
        rw [e]
        exact m2 j (by omega) hj
      · exact h.e j h0 hj e
    · rename_i hc
      have := firstL_or lt l i
      exact down_ok hw f _ _ (by rw [swapL_len]; omega) (by rw [swapL_len]; exact m3 hc) (down_step hw hi hc h)
theorem fix_ok {lt : P → P → Bool} (hw : Swo lt) {l : List (Item K P)} {i : Nat} (hi : i < l.length) (h : UpOK lt l i) : HeapOK lt (fixL lt l i) := by
  unfold fixL
  refine down_ok hw _ _ _ (by rw [upL_len]; omega) (by rw [upL_len]; exact Nat.lt_of_le_of_lt (upL_le lt i l i) hi) (up_ok hw i l i (Nat.le_refl _) hi h)
theorem heap_min {lt : P → P → Bool} (hw : Swo lt) {l : List (Item K P)} (h : HeapOK lt l) : ∀ n i, i ≤ n → i < l.length → Le lt (at_ l 0) (at_ l i)
  | 0, i, hn, hi => by
    have : i = 0 := by omega
    subst this
    exact Le.refl hw _
  | n + 1, i, hn, hi => by
    by_cases e : i = 0
    · subst e
      exact Le.refl hw _
    · exact (heap_min hw h n ((i - 1) / 2) (by omega) (by omega)).trans hw (h i (by omega) hi)
theorem set_up {lt : P → P → Bool} (hw : Swo lt) {l : List (Item K P)} (h : HeapOK lt l) {i : Nat} (hi : i < l.length) (x : Item K P) : UpOK lt (l.set i x) i := by
  constructor
  · intro j h0 hj hji hp
    rw [List.length_set] at hj
    rw [at_set _ _ _ _ (by omega : (j - 1) / 2 < l.length), at_set _ _ _ _ hj, if_neg (show ¬ i = j from fun e => hji e.symm), if_neg (show ¬ i = (j - 1) / 2 from fun e => hp e.symm)]
    exact h j h0 hj
  · intro j h0 hj hp hi0
    rw [List.length_set] at hj
    rw [at_set _ _ _ _ (by omega : (i - 1) / 2 < l.length), at_set _ _ _ _ hj, if_neg (show ¬ i = j by omega), if_neg (show ¬ i = (i - 1) / 2 by omega)]
    have e1 := h i hi0 hi
    have e2 := h j h0 hj
    rw [hp] at e2
    exact e1.trans hw e2
theorem at_append (l : List (Item K P)) (x : Item K P) {j : Nat} (hj : j < l.length) : at_ (l ++ [x]) j = at_ l j := by
  unfold at_
  rw [List.getD_eq_getElem?_getD, List.getD_eq_getElem?_getD, List.getElem?_append_left hj]
theorem append_up {lt : P → P → Bool} {l : List (Item K P)} (h : HeapOK lt l) (x : Item K P) : UpOK lt (l ++ [x]) l.length := by
  constructor
  · intro j h0 hj hji hp
    have hj' : j < l.length := by simp at hj; omega
    rw [at_append l x hj', at_append l x (by omega)]
    exact h j h0 hj'
  · intro j h0 hj hp hi0
    simp at hj
    omega
theorem at_take (l : List (Item K P)) (n : Nat) {j : Nat} (hj : j < n) : at_ (l.take n) j = at_ l j := by
  unfold at_
  rw [List.getD_eq_getElem?_getD, List.getD_eq_getElem?_getD, List.getElem?_take, if_pos hj]
theorem take_ok {lt : P → P → Bool} {l : List (Item K P)} (h : HeapOK lt l) (n : Nat) : HeapOK lt (l.take n) := by
  intro j h0 hj
  simp at hj
  rw [at_take l n (by omega), at_take l n (by omega)]
  exact h j h0 (by omega)
end
end Go.Proofs.Ytgbfhhmmkhjhhaa.HeapP
namespace Go.Proofs.Ytgbfhhmmkhjhhaa.MapAt
open Go.ChangeMaps Go.MapKept Go.RowKit
open Go.Maps (Keyed)
set_option linter.unusedVariables false
/-- keys of type kt, told by enc: those of ok read as keys, and differ where they do -/
structure Law (P : Program) (kt : TypeId) {K : Type} (enc : K → Value) (ok : K → Prop) : Prop where
  keyed : Keyed P kt
  lit : ∀ k, ok k → ∃ l, keyOf P kt (enc k) = some l
  inj : ∀ a b, ok a → ok b → enc a = enc b → a = b
section
variable {P : Program} {kt : TypeId} {K : Type} {enc : K → Value} {ok : K → Prop}
/-- block b of w is a map that tells f -/
def MapAt (enc : K → Value) (ok : K → Prop) (w : World) (b : Nat) (f : K → Option Nat) : Prop :=
  ∃ (es : Array MapEntry) (clock : Nat), w.heap[b]? = some (.map es clock) ∧ (∀ e ∈ es.toList, ∃ k n, ok k ∧ e.key = enc k ∧ e.val = .int .i64 (n : Nat) ∧ f k = some n) ∧ (∀ k n, ok k → f k = some n → ∃ e ∈ es.toList, e.key = enc k) ∧ Stamped es clock
def upd [DecidableEq K] (f : K → Option Nat) (k : K) (n : Nat) : K → Option Nat := fun x => if x = k then some n else f x
def rem [DecidableEq K] (f : K → Option Nat) (k : K) : K → Option Nat := fun x => if x = k then none else f x
theorem pw {es : Array MapEntry} {cl : Nat} (h : Stamped es cl) : es.toList.Pairwise (fun a b => a.key ≠ b.key) := by
  have := h.2.2
  unfold List.Nodup at this
  rw [List.pairwise_map] at this
  exact this
theorem MapAt.congr {w : World} {b : Nat} {f g : K → Option Nat} (h : MapAt enc ok w b f) (hg : ∀ k, ok k → g k = f k) : MapAt enc ok w b g := by
  obtain ⟨es, cl, h1, h2, h3, h4⟩ := h
  refine ⟨es, cl, h1, fun e he => ?_, fun k n hk hn => h3 k n hk (by rw [← hg k hk]; exact hn), h4⟩
  obtain ⟨k, n, a, b, c, d⟩ := h2 e he
  exact ⟨k, n, a, b, c, by rw [hg k a]; exact d⟩
theorem MapAt.lt {w : World} {b : Nat} {f : K → Option Nat} (h : MapAt enc ok w b f) : b < w.heap.size := by
  obtain ⟨es, cl, h1, _⟩ := h
  exact (Array.getElem?_eq_some_iff.1 h1).1
theorem MapAt.move {w w' : World} {b : Nat} {f : K → Option Nat} (h : MapAt enc ok w b f) (hb : w'.heap[b]? = w.heap[b]?) : MapAt enc ok w' b f := by
  obtain ⟨es, cl, h1, h2⟩ := h
  exact ⟨es, cl, hb.trans h1, h2⟩
theorem MapAt.none (w : World) (enc : K → Value) (ok : K → Prop) : MapAt enc ok (w.alloc (.map #[] 0)) w.heap.size (fun _ => none) :=
  ⟨#[], 0, (MapKept.heap_alloc w _).1, by simp, by simp, stamped_empty 0⟩
/-- the block is no row of cells -/
theorem MapAt.ne {w : World} {b : Nat} {f : K → Option Nat} (h : MapAt enc ok w b f) {g : Nat} {cs : Array Value} {t : TypeId} {fr : Nat × Nat} (hg : w.heap[g]? = some (.cells cs t fr)) : g ≠ b := by
  obtain ⟨es, cl, h1, _⟩ := h
  intro e
  rw [e, h1] at hg
  cases hg
/-- 'n, ok := m[k]' -/
theorem MapAt.look (L : Law P kt enc ok) {w : World} {b : Nat} {f : K → Option Nat} (h : MapAt enc ok w b f) {t e : TypeId} (ht : P.underlying t = some (.map kt e)) (hz : (zeroValue e).run P w = .ok (.int .i64 0) w) {k : K} (hk : ok k) :
    (Instr.lookup t (.map (some b)) (enc k) true).run P w = .ok (.tuple #[.int .i64 (((f k).getD 0 : Nat) : Int), .bool (f k).isSome]) w := by
  obtain ⟨es, cl, h1, h2, h3, h4⟩ := h
  obtain ⟨l, hl⟩ := L.lit k hk
  have hks : ∀ e ∈ es.toList, ∃ l, keyOf P kt e.key = some l := fun e he => by
    obtain ⟨k', n, a, b, _⟩ := h2 e he
    rw [b]
    exact L.lit k' a
  rcases L.keyed.find w hl es.toList hks with ⟨r1, r2⟩ | ⟨j, e0, r1, r2, r3⟩
  · have hf : f k = Option.none := by
      cases hf : f k with
      | none => rfl
      | some n =>
        obtain ⟨e, he, hek⟩ := h3 k n hk hf
        exact absurd hek (r2 e he)
    rw [hf]
    simp [Instr.lookup, run_underlying ht, MapKept.run_getObj_map h1, L.keyed.check w _ hl, r1, hz, Result.andThen]
  · have hm : e0 ∈ es.toList := List.mem_of_getElem? r2
    obtain ⟨k', n, a, b', c, d⟩ := h2 e0 hm
    have : k' = k := L.inj _ _ a hk (b'.symm.trans r3)
    subst this
    rw [d]
    simp [Instr.lookup, run_underlying ht, MapKept.run_getObj_map h1, L.keyed.check w _ hl, r1, c, Result.andThen]
theorem mem_modify {es : List MapEntry} {j : Nat} {g : MapEntry → MapEntry} {e : MapEntry} (h : e ∈ es.modify j g) : (∃ e0, es[j]? = some e0 ∧ e = g e0) ∨ ∃ i, i ≠ j ∧ es[i]? = some e := by
  obtain ⟨i, hi⟩ := List.getElem?_of_mem h
  rw [List.getElem?_modify] at hi
  by_cases hij : j = i
  · subst hij
    simp at hi
    obtain ⟨e0, h1, h2⟩ := hi
    exact Or.inl ⟨e0, h1, h2.symm⟩
  · simp [hij] at hi
    exact Or.inr ⟨i, fun q => hij q.symm, hi⟩
/-- 'm[k] = n' -/
theorem MapAt.put [DecidableEq K] (L : Law P kt enc ok) {w : World} {b : Nat} {f : K → Option Nat} (h : MapAt enc ok w b f) {t e : TypeId} (ht : P.underlying t = some (.map kt e)) {k : K} (hk : ok k) (n : Nat) :
    ∃ w', (Instr.mapUpdate t (.map (some b)) (enc k) (.int .i64 (n : Nat))).run P w = .ok () w' ∧ MapAt enc ok w' b (upd f k n) ∧ w.grownBy w' (some b) := by
  obtain ⟨es, cl, h1, h2, h3, h4⟩ := h
  obtain ⟨l, hl⟩ := L.lit k hk
  have hks : ∀ e ∈ es.toList, ∃ l, keyOf P kt e.key = some l := fun e he => by
    obtain ⟨k', n, a, b, _⟩ := h2 e he
    rw [b]
    exact L.lit k' a
  have hgr : ∀ o, w.grownBy (setBlock w b o) (some b) := fun o => ⟨rfl, rfl, rfl, by simp [setBlock], fun i _ hi => heap_setBlock_other h1 _ (fun e => hi (by rw [e]))⟩
  rcases L.keyed.find w hl es.toList hks with ⟨r1, r2⟩ | ⟨j, e0, r1, r2, r3⟩
  · refine ⟨setBlock w b (.map (es.push ⟨enc k, .int .i64 (n : Nat), cl⟩) (cl + 1)), ?_, ⟨es.push ⟨enc k, .int .i64 (n : Nat), cl⟩, cl + 1, heap_setBlock_same h1 _, ?_, ?_, ?_⟩, hgr _⟩
    · simp [Instr.mapUpdate, run_underlying ht, MapKept.run_getObj_map h1, L.keyed.check w false hl, r1, MapKept.run_setObj_map _ h1, Result.andThen, setBlock]
    · intro x hx
      simp only [Array.toList_push, List.mem_append, List.mem_singleton] at hx
      rcases hx with hx | rfl
      · obtain ⟨k', n', a, b', c, d⟩ := h2 x hx
        refine ⟨k', n', a, b', c, ?_⟩
        unfold upd
        rw [if_neg (fun q => r2 x hx (by rw [b', q]))]
        exact d
      · exact ⟨k, n, hk, rfl, rfl, by simp [upd]⟩
    · intro k' n' hk' hn'
      unfold upd at hn'
      simp only [Array.toList_push, List.mem_append, List.mem_singleton]
      by_cases q : k' = k
      · subst q
        exact ⟨_, Or.inr rfl, rfl⟩
      · rw [if_neg q] at hn'
        obtain ⟨x, hx, hxk⟩ := h3 k' n' hk' hn'
        exact ⟨x, Or.inl hx, hxk⟩
    · exact stamped_push h4 r2
  · have hjl : j < es.toList.length := (List.getElem?_eq_some_iff.1 r2).1
    have hget : es[j]? = some e0 := by rw [← Array.getElem?_toList]; exact r2
    refine ⟨setBlock w b (.map (es.modify j fun e => { e with key := enc k, val := .int .i64 (n : Nat) }) cl), ?_, ⟨es.modify j fun e => { e with key := enc k, val := .int .i64 (n : Nat) }, cl, heap_setBlock_same h1 _, ?_, ?_, ?_⟩, hgr _⟩
    · simp [Instr.mapUpdate, run_underlying ht, MapKept.run_getObj_map h1, L.keyed.check w false hl, r1, hget, r3, L.keyed.stays w hl, MapKept.run_setObj_map _ h1, Result.andThen, setBlock]
    · intro x hx
      rw [Array.toList_modify] at hx
      rcases mem_modify hx with ⟨e1, q1, rfl⟩ | ⟨i, hij, q1⟩
      · exact ⟨k, n, hk, rfl, rfl, by simp [upd]⟩
      · have hm := List.mem_of_getElem? q1
        obtain ⟨k', n', a, b', c, d⟩ := h2 x hm
        refine ⟨k', n', a, b', c, ?_⟩
        unfold upd
        rw [if_neg ?_]
        · exact d
        · intro q
          have hil : i < es.toList.length := (List.getElem?_eq_some_iff.1 q1).1
          have e2 : es.toList[i] = x := (List.getElem?_eq_some_iff.1 q1).2
          have e3 : es.toList[j] = e0 := (List.getElem?_eq_some_iff.1 r2).2
          have e4 : x.key = e0.key := by rw [b', q, r3]
          rcases Nat.lt_or_ge i j with hlt | hge
          · have := List.pairwise_iff_getElem.1 (pw h4) i j hil hjl hlt
            rw [e2, e3] at this
            exact this e4
          · have := List.pairwise_iff_getElem.1 (pw h4) j i hjl hil (by omega)
            rw [e2, e3] at this
            exact this e4.symm
    · intro k' n' hk' hn'
      unfold upd at hn'
      rw [Array.toList_modify]
      by_cases q : k' = k
      · subst q
        refine ⟨{ e0 with key := enc k', val := .int .i64 (n : Nat) }, ?_, rfl⟩
        refine List.mem_of_getElem? (i := j) ?_
        rw [List.getElem?_modify, r2]
        simp
      · rw [if_neg q] at hn'
        obtain ⟨x, hx, hxk⟩ := h3 k' n' hk' hn'
        obtain ⟨i, hi⟩ := List.getElem?_of_mem hx
        refine ⟨x, List.mem_of_getElem? (i := i) ?_, hxk⟩
        rw [List.getElem?_modify]
        have hij : j ≠ i := fun e => by
          subst e
          rw [r2] at hi
          cases hi
          exact q (L.inj _ _ hk' hk (hxk.symm.trans r3))
        simp [hij, hi]
    · refine stamped_modify h4 j _ (fun _ _ => rfl) (fun e he hj => ?_)
      rw [hget] at hj
      cases hj
      exact r3.symm
/-- 'delete(m, k)' -/
theorem MapAt.del [DecidableEq K] (L : Law P kt enc ok) {w : World} {b : Nat} {f : K → Option Nat} (h : MapAt enc ok w b f) {t e : TypeId} (ht : P.underlying t = some (.map kt e)) {k : K} (hk : ok k) (tk ty : TypeId) :
    ∃ w', (Builtin.delete_ #[t, tk] ty #[.map (some b), enc k]).run P w = .ok (.tuple #[]) w' ∧ MapAt enc ok w' b (rem f k) ∧ w.grownBy w' (some b) := by
  obtain ⟨es, cl, h1, h2, h3, h4⟩ := h
  obtain ⟨l, hl⟩ := L.lit k hk
  have hks : ∀ e ∈ es.toList, ∃ l, keyOf P kt e.key = some l := fun e he => by
    obtain ⟨k', n, a, b, _⟩ := h2 e he
    rw [b]
    exact L.lit k' a
  have hgr : ∀ o, w.grownBy (setBlock w b o) (some b) := fun o => ⟨rfl, rfl, rfl, by simp [setBlock], fun i _ hi => heap_setBlock_other h1 _ (fun e => hi (by rw [e]))⟩
  rcases L.keyed.find w hl es.toList hks with ⟨r1, r2⟩ | ⟨j, e0, r1, r2, r3⟩
  · refine ⟨setBlock w b (.map es cl), ?_, ⟨es, cl, heap_setBlock_same h1 _, ?_, ?_, h4⟩, hgr _⟩
    · simp [Builtin.delete_, run_underlying ht, MapKept.run_getObj_map h1, L.keyed.check w _ hl, r1, MapKept.run_setObj_map _ h1, Result.andThen, setBlock]
    · intro x hx
      obtain ⟨k', n', a, b', c, d⟩ := h2 x hx
      refine ⟨k', n', a, b', c, ?_⟩
      unfold rem
      rw [if_neg (fun q => r2 x hx (by rw [b', q]))]
      exact d
    · intro k' n' hk' hn'
      unfold rem at hn'
      split at hn'
      · cases hn'
      · exact h3 k' n' hk' hn'
  · have hjl : j < es.toList.length := (List.getElem?_eq_some_iff.1 r2).1
    have hjs : j < es.size := by simpa using hjl
    have hsub : (es.eraseIdxIfInBounds j).toList = es.toList.eraseIdx j := by
      unfold Array.eraseIdxIfInBounds
      rw [dif_pos hjs]
      simp
    have e3 : es.toList[j] = e0 := (List.getElem?_eq_some_iff.1 r2).2
    refine ⟨setBlock w b (.map (es.eraseIdxIfInBounds j) cl), ?_, ⟨es.eraseIdxIfInBounds j, cl, heap_setBlock_same h1 _, ?_, ?_, ?_⟩, hgr _⟩
    · simp [Builtin.delete_, run_underlying ht, MapKept.run_getObj_map h1, L.keyed.check w _ hl, r1, MapKept.run_setObj_map _ h1, Result.andThen, setBlock]
    · intro x hx
      rw [hsub, List.mem_eraseIdx_iff_getElem] at hx
      obtain ⟨i, hil, hij, rfl⟩ := hx
      obtain ⟨k', n', a, b', c, d⟩ := h2 es.toList[i] (List.getElem_mem hil)
      refine ⟨k', n', a, b', c, ?_⟩
      unfold rem
      rw [if_neg ?_]
      · exact d
      · intro q
        have e4 : (es.toList[i]).key = (es.toList[j]).key := by rw [b', q, e3, r3]
        rcases Nat.lt_or_ge i j with hlt | hge
        · exact List.pairwise_iff_getElem.1 (pw h4) i j hil hjl hlt e4
        · exact List.pairwise_iff_getElem.1 (pw h4) j i hjl hil (by omega) e4.symm
    · intro k' n' hk' hn'
      unfold rem at hn'
      split at hn'
      · cases hn'
      · rename_i q
        obtain ⟨x, hx, hxk⟩ := h3 k' n' hk' hn'
        obtain ⟨i, hil, hi⟩ := List.getElem_of_mem hx
        refine ⟨x, ?_, hxk⟩
        rw [hsub, List.mem_eraseIdx_iff_getElem]
        refine ⟨i, hil, fun e => ?_, hi⟩
        subst e
        rw [hi] at e3
        subst e3
        exact q (L.inj _ _ hk' hk (hxk.symm.trans r3))
    · exact stamped_erase h4 j
/-- 'm[k], .. = n, ..' of a key that is there: the entry is looked up first, then written -/
theorem MapAt.entry [DecidableEq K] (L : Law P kt enc ok) {w : World} {b : Nat} {f : K → Option Nat} (h : MapAt enc ok w b f) {t e : TypeId} (ht : P.underlying t = some (.map kt e)) {k : K} (hk : ok k) {n : Nat} (hn : f k = some n) :
    ∃ st : Nat, (Instr.mapEntry t (.map (some b)) (enc k)).run P w = .ok (.tuple #[.int .i64 (n : Nat), .int .i64 (st : Nat)]) w ∧
      ∀ v : Nat, ∃ w', (Instr.entryStore t (.map (some b)) (.int .i64 (st : Nat)) (.int .i64 (v : Nat))).run P w = .ok () w' ∧ MapAt enc ok w' b (upd f k v) ∧ w.grownBy w' (some b) := by
  have h0 := h
  obtain ⟨es, cl, h1, h2, h3, h4⟩ := h
  obtain ⟨l, hl⟩ := L.lit k hk
  have hks : ∀ e ∈ es.toList, ∃ l, keyOf P kt e.key = some l := fun e he => by
    obtain ⟨k', n, a, b, _⟩ := h2 e he
    rw [b]
    exact L.lit k' a
  have hgr : ∀ o, w.grownBy (setBlock w b o) (some b) := fun o => ⟨rfl, rfl, rfl, by simp [setBlock], fun i _ hi => heap_setBlock_other h1 _ (fun e => hi (by rw [e]))⟩
  rcases L.keyed.find w hl es.toList hks with ⟨r1, r2⟩ | ⟨j, e0, r1, r2, r3⟩
  · obtain ⟨x, hx, hxk⟩ := h3 k n hk hn
    exact absurd hxk (r2 x hx)
  · have hjl : j < es.toList.length := (List.getElem?_eq_some_iff.1 r2).1
    have hjs : j < es.size := by simpa using hjl
    have hget : es[j]? = some e0 := by rw [← Array.getElem?_toList]; exact r2
    have hm : e0 ∈ es.toList := List.mem_of_getElem? r2
    have e3 : es.toList[j] = e0 := (List.getElem?_eq_some_iff.1 r2).2
    obtain ⟨k', n', q1, q2, q3, q4⟩ := h2 e0 hm
    have hkk : k' = k := L.inj _ _ q1 hk (q2.symm.trans r3)
    subst hkk
    rw [hn] at q4
    cases q4
    have hsame : es.modify j (fun e => { e with key := enc k' }) = es := by
      apply Array.ext_getElem?
      intro i
      rw [Array.getElem?_modify]
      by_cases hi : j = i
      · subst hi
        rw [if_pos rfl, hget]
        simp only [Option.map_some, Option.some.injEq]
        rw [← r3]
      · rw [if_neg hi]
    have hw : ({ w with heap := w.heap.setIfInBounds b (.map es cl) } : World) = w := by
      have : w.heap.setIfInBounds b (.map es cl) = w.heap := by
        apply Array.ext_getElem?
        intro i
        rw [Array.getElem?_setIfInBounds]
        by_cases hi : b = i
        · subst hi
          rw [if_pos rfl, h1]
          have := (Array.getElem?_eq_some_iff.1 h1).1
          simp [this]
        · rw [if_neg hi]
      rw [this]
    refine ⟨e0.born, ?_, fun v => ?_⟩
    · simp [Instr.mapEntry, run_underlying ht, MapKept.run_getObj_map h1, L.keyed.check w false hl, r1, hget, r3, L.keyed.stays w hl, MapKept.run_setObj_map _ h1, Result.andThen, hsame, hw, goInt, q3]
    · have hfi : es.findIdx? (fun e => ((e.born : Int) == (e0.born : Int))) = some j := by
        rw [Array.findIdx?_eq_some_iff_getElem]
        have ej : es[j] = e0 := (Array.getElem?_eq_some_iff.1 hget).2
        refine ⟨hjs, by rw [ej]; simp, fun i hi => ?_⟩
        have hb := h4.2.1
        unfold List.Nodup at hb
        rw [List.pairwise_map] at hb
        have := List.pairwise_iff_getElem.1 hb i j (by simp; omega) hjl hi
        simp only [Array.getElem_toList] at this
        rw [ej] at this
        simp
        intro q
        exact this (by exact_mod_cast q)
      have hput : ∃ w', (Instr.mapUpdate t (.map (some b)) (enc k') (.int .i64 (v : Nat))).run P w = .ok () w' ∧ MapAt enc ok w' b (upd f k' v) ∧ w.grownBy w' (some b) := MapAt.put L h0 ht hk v
      obtain ⟨w', p1, p2, p3⟩ := hput
      refine ⟨w', ?_, p2, p3⟩
      rw [← p1]
      have hmod : es.modify j (fun e => { e with val := .int .i64 (v : Nat) }) = es.modify j (fun e => { e with key := enc k', val := .int .i64 (v : Nat) }) := by
        apply Array.ext_getElem?
        intro i
        rw [Array.getElem?_modify, Array.getElem?_modify]
        by_cases hi : j = i
        · subst hi
          rw [if_pos rfl, if_pos rfl, hget]
          simp only [Option.map_some, Option.some.injEq]
          rw [← r3]
        · rw [if_neg hi, if_neg hi]
      simp [Instr.entryStore, Instr.mapUpdate, asInt, asIntOf, run_underlying ht, MapKept.run_getObj_map h1, L.keyed.check w false hl, r1, hget, r3, L.keyed.stays w hl, MapKept.run_setObj_map _ h1, Result.andThen, hfi, hmod]
end
end Go.Proofs.Ytgbfhhmmkhjhhaa.MapAt
namespace Go.Proofs.Ytgbfhhmmkhjhhaa.HeapP
open Go.Proofs.Ytgbfhhmmkhjhhaa.MapAt (upd rem)
set_option linter.unusedVariables false
set_option linter.unusedSectionVars false
set_option linter.unusedSimpArgs false
variable {K P : Type} [Inhabited K] [Inhabited P] [DecidableEq K]
def idxL (l : List (Item K P)) (k : K) : Option Nat := l.findIdx? (fun x => decide (x.1 = k))
def Keys (l : List (Item K P)) : Prop := (l.map (·.1)).Nodup
theorem Keys.perm {l l' : List (Item K P)} (h : Keys l) (hp : l'.Perm l) : Keys l' := by
  unfold Keys at *
  exact ((hp.map (fun x : Item K P => x.1)).nodup_iff).2 h
theorem idx_some {l : List (Item K P)} {k : K} {i : Nat} (h : idxL l k = some i) : i < l.length ∧ (at_ l i).1 = k := by
  unfold idxL at h
  rw [List.findIdx?_eq_some_iff_getElem] at h
  obtain ⟨hi, h1, _⟩ := h
  exact ⟨hi, by rw [at_eq hi]; simpa using h1⟩
theorem idx_none {l : List (Item K P)} {k : K} : idxL l k = none ↔ ∀ x ∈ l, x.1 ≠ k := by
  unfold idxL
  rw [List.findIdx?_eq_none_iff]
  constructor
  · intro h x hx
    have := h x hx
    simpa using this
  · intro h x hx
    simpa using h x hx
theorem key_inj {l : List (Item K P)} (h : Keys l) {i j : Nat} (hi : i < l.length) (hj : j < l.length) (e : (at_ l i).1 = (at_ l j).1) : i = j := by
  unfold Keys at h
  rw [at_eq hi, at_eq hj] at e
  have h1 : i < (l.map (·.1)).length := by simpa using hi
  have h2 : j < (l.map (·.1)).length := by simpa using hj
  rcases Nat.lt_trichotomy i j with q | q | q
  · have := List.pairwise_iff_getElem.1 h i j h1 h2 q
    simp at this
    exact absurd e this
  · exact q
  · have := List.pairwise_iff_getElem.1 h j i h2 h1 q
    simp at this
    exact absurd e.symm this
theorem idx_at {l : List (Item K P)} (h : Keys l) {i : Nat} (hi : i < l.length) : idxL l (at_ l i).1 = some i := by
  cases e : idxL l (at_ l i).1 with
  | none =>
    have := idx_none.1 e (at_ l i) (by rw [at_eq hi]; exact List.getElem_mem hi)
    exact absurd rfl this
  | some j =>
    obtain ⟨hj, hk⟩ := idx_some e
    rw [key_inj h hj hi hk]
theorem idx_iff {l : List (Item K P)} (h : Keys l) {k : K} {i : Nat} : idxL l k = some i ↔ i < l.length ∧ (at_ l i).1 = k := by
  constructor
  · exact idx_some
  · rintro ⟨hi, rfl⟩
    exact idx_at h hi
theorem idx_ext {l l' : List (Item K P)} {f : K → Option Nat} (h : Keys l) (h1 : ∀ k i, f k = some i ↔ i < l.length ∧ (at_ l i).1 = k) (k : K) : f k = idxL l k := by
  cases e : f k with
  | none =>
    cases e2 : idxL l k with
    | none => rfl
    | some i =>
      have := (h1 k i).2 (idx_some e2)
      rw [e] at this
      cases this
  | some i =>
    rw [(idx_iff h).2 ((h1 k i).1 e)]
theorem idx_swap {l : List (Item K P)} (h : Keys l) {i j : Nat} (hi : i < l.length) (hj : j < l.length) (k : K) : upd (upd (idxL l) (at_ l j).1 i) (at_ l i).1 j k = idxL (swapL l i j) k := by
  refine idx_ext (l' := l) (h.perm (swapL_perm l hi hj)) (fun k m => ?_) k
  rw [swapL_len]
  unfold upd
  by_cases e1 : k = (at_ l i).1
  · subst e1
    rw [if_pos rfl]
    constructor
    · intro q
      cases q
      exact ⟨hj, by rw [at_swap l hi hj hj, if_pos rfl]⟩
    · rintro ⟨hm, q⟩
      rw [at_swap l hi hj hm] at q
      by_cases e2 : m = j
      · rw [e2]
      · rw [if_neg e2] at q
        by_cases e3 : m = i
        · rw [if_pos e3] at q
          exact absurd (e3.trans (key_inj h hj hi q).symm) e2
        · rw [if_neg e3] at q
          exact absurd (key_inj h hm hi q) e3
  · rw [if_neg e1]
    by_cases e4 : k = (at_ l j).1
    · subst e4
      rw [if_pos rfl]
      constructor
      · intro q
        cases q
        refine ⟨hi, ?_⟩
        rw [at_swap l hi hj hi]
        by_cases e2 : i = j
        · rw [if_pos e2, e2]
        · rw [if_neg e2, if_pos rfl]
      · rintro ⟨hm, q⟩
        rw [at_swap l hi hj hm] at q
        by_cases e2 : m = j
        · rw [if_pos e2] at q
          exact absurd q.symm e1
        · rw [if_neg e2] at q
          by_cases e3 : m = i
          · rw [e3]
          · rw [if_neg e3] at q
            exact absurd (key_inj h hm hj q) e2
    · rw [if_neg e4, idx_iff h]
      constructor
      · rintro ⟨hm, q⟩
        refine ⟨hm, ?_⟩
        rw [at_swap l hi hj hm]
        by_cases e2 : m = j
        · subst e2
          exact absurd q.symm e4
        · rw [if_neg e2]
          by_cases e3 : m = i
          · subst e3
            exact absurd q.symm e1
          · rw [if_neg e3]
            exact q
      · rintro ⟨hm, q⟩
        refine ⟨hm, ?_⟩
        rw [at_swap l hi hj hm] at q
        by_cases e2 : m = j
        · rw [if_pos e2] at q
          exact absurd q.symm e1
        · rw [if_neg e2] at q
          by_cases e3 : m = i
          · rw [if_pos e3] at q
            exact absurd q.symm e4
          · rwa [if_neg e3] at q
theorem keys_append {l : List (Item K P)} (h : Keys l) {x : Item K P} (hx : idxL l x.1 = none) : Keys (l ++ [x]) := by
  unfold Keys at *
  rw [List.map_append, List.nodup_append]
  refine ⟨h, by simp, fun a ha b hb => ?_⟩
  simp at hb
  subst hb
  obtain ⟨y, hy, rfl⟩ := List.mem_map.1 ha
  exact idx_none.1 hx y hy
theorem at_append_last (l : List (Item K P)) (x : Item K P) : at_ (l ++ [x]) l.length = x := by
  unfold at_
  rw [List.getD_eq_getElem?_getD]
  simp
theorem idx_append {l : List (Item K P)} (h : Keys l) {x : Item K P} (hx : idxL l x.1 = none) (k : K) : upd (idxL l) x.1 l.length k = idxL (l ++ [x]) k := by
  refine idx_ext (l' := l) (keys_append h hx) (fun k m => ?_) k
  unfold upd
  by_cases e : k = x.1
  · subst e
    rw [if_pos rfl]
    constructor
    · intro q
      cases q
      exact ⟨by simp, by rw [at_append_last]⟩
    · rintro ⟨hm, q⟩
      have hm' : m < l.length + 1 := by simpa using hm
      by_cases e2 : m = l.length
      · rw [e2]
      · have hl : m < l.length := by omega
        rw [at_append l x hl] at q
        have := (idx_iff h).2 ⟨hl, q⟩
        rw [hx] at this
        cases this
  · rw [if_neg e, idx_iff h]
    constructor
    · rintro ⟨hm, q⟩
      exact ⟨by simp; omega, by rw [at_append l x hm]; exact q⟩
    · rintro ⟨hm, q⟩
      have hm' : m < l.length + 1 := by simpa using hm
      by_cases e2 : m = l.length
      · subst e2
        rw [at_append_last] at q
        exact absurd q.symm e
      · have hl : m < l.length := by omega
        rw [at_append l x hl] at q
        exact ⟨hl, q⟩
theorem keys_map_set {l : List (Item K P)} {i : Nat} {x : Item K P} (hi : i < l.length) (hx : (at_ l i).1 = x.1) : (l.set i x).map (·.1) = l.map (·.1) := by
  rw [List.map_set]
  apply List.ext_getElem
  · simp
  · intro m h1 h2
    rw [List.getElem_set]
    split
    · rename_i e
      subst e
      rw [List.getElem_map, ← hx, at_eq hi]
    · rfl
theorem keys_set {l : List (Item K P)} (h : Keys l) {i : Nat} {x : Item K P} (hi : i < l.length) (hx : (at_ l i).1 = x.1) : Keys (l.set i x) := by
  unfold Keys
  rw [keys_map_set hi hx]
  exact h
theorem idx_set {l : List (Item K P)} (h : Keys l) {i : Nat} {x : Item K P} (hi : i < l.length) (hx : (at_ l i).1 = x.1) (k : K) : idxL l k = idxL (l.set i x) k := by
  refine idx_ext (l' := l) (keys_set h hi hx) (fun k m => ?_) k
  rw [idx_iff h, List.length_set]
  constructor
  · rintro ⟨hm, q⟩
    refine ⟨hm, ?_⟩
    rw [at_set _ _ _ _ hm]
    split
    · rename_i e
      subst e
      rw [← hx]; exact q
    · exact q
  · rintro ⟨hm, q⟩
    refine ⟨hm, ?_⟩
    rw [at_set _ _ _ _ hm] at q
    split at q
    · rename_i e
      subst e
      rw [hx]; exact q
    · exact q
theorem keys_take {l : List (Item K P)} (h : Keys l) (n : Nat) : Keys (l.take n) := by
  unfold Keys at *
  rw [List.map_take]
  exact h.sublist (List.take_sublist _ _)
theorem idx_take {l : List (Item K P)} (h : Keys l) {n : Nat} (hn : l.length = n + 1) (k : K) : rem (idxL l) (at_ l n).1 k = idxL (l.take n) k := by
  refine idx_ext (l' := l) (keys_take h n) (fun k m => ?_) k
  have hlt : (l.take n).length = n := by simp; omega
  unfold rem
  rw [hlt]
  by_cases e : k = (at_ l n).1
  · subst e
    rw [if_pos rfl]
    constructor
    · intro q; cases q
    · rintro ⟨hm, q⟩
      rw [at_take l n hm] at q
      have := key_inj h (by omega) (by omega) q
      omega
  · rw [if_neg e, idx_iff h]
    constructor
    · rintro ⟨hm, q⟩
      have hmn : m ≠ n := fun e2 => e (by rw [← q, e2])
      exact ⟨by omega, by rw [at_take l n (by omega)]; exact q⟩
    · rintro ⟨hm, q⟩
      rw [at_take l n hm] at q
      exact ⟨by omega, q⟩
/-- Put of the how-manieth call c -/
def putL (lt : P → P → Bool) (l : List (Item K P)) (c : Int) (k : K) (r : P) : List (Item K P) :=
  match idxL l k with
  | some i => fixL lt (l.set i (k, r, c)) i
  | none => fixL lt (l ++ [(k, r, c)]) l.length
/-- Drop of the one at i -/
def dropL (lt : P → P → Bool) (l : List (Item K P)) (i : Nat) : List (Item K P) :=
  if i < l.length - 1 then fixL lt ((swapL l i (l.length - 1)).take (l.length - 1)) i else (swapL l i (l.length - 1)).take (l.length - 1)
theorem filter_none {l : List (Item K P)} {k : K} (h : idxL l k = none) : l.filter (fun x => decide (x.1 ≠ k)) = l := by
  rw [List.filter_eq_self]
  intro x hx
  simpa using idx_none.1 h x hx
theorem filter_erase {l : List (Item K P)} (h : Keys l) {k : K} {i : Nat} (hi : idxL l k = some i) : l.filter (fun x => decide (x.1 ≠ k)) = l.eraseIdx i := by
  induction l generalizing i with
  | nil => simp [idxL] at hi
  | cons y t ih =>
    have ht : Keys t := by unfold Keys at *; simp at h; exact h.2
    unfold idxL at hi
    rw [List.findIdx?_cons] at hi
    by_cases e : y.1 = k
    · simp [e] at hi
      subst hi
      rw [List.filter_cons_of_neg (by simp [e]), List.eraseIdx_zero, List.tail_cons, List.filter_eq_self]
      intro x hx
      unfold Keys at h
      rw [List.map_cons, List.nodup_cons] at h
      simp only [decide_eq_true_eq]
      intro q
      exact h.1 (List.mem_map.2 ⟨x, hx, by rw [q, e]⟩)
    · simp [e] at hi
      obtain ⟨j, hj, rfl⟩ := hi
      rw [List.filter_cons_of_pos (by simp [e]), List.eraseIdx_cons_succ, ih ht hj]
theorem set_perm {l : List (Item K P)} {i : Nat} (hi : i < l.length) (x : Item K P) : (l.set i x).Perm (l.eraseIdx i ++ [x]) := by
  rw [List.set_eq_take_append_cons_drop, if_pos hi, List.eraseIdx_eq_take_drop_succ]
  refine List.Perm.trans ?_ (List.perm_append_comm)
  exact List.perm_middle
theorem putL_perm (lt : P → P → Bool) {l : List (Item K P)} (h : Keys l) (c : Int) (k : K) (r : P) : (putL lt l c k r).Perm (l.filter (fun x => decide (x.1 ≠ k)) ++ [(k, r, c)]) := by
  unfold putL
  cases e : idxL l k with
  | none =>
    show (fixL lt (l ++ [(k, r, c)]) l.length).Perm _
    rw [filter_none e]
    exact fixL_perm lt _ (by simp)
  | some i =>
    show (fixL lt (l.set i (k, r, c)) i).Perm _
    rw [filter_erase h e]
    have hi := (idx_some e).1
    exact (fixL_perm lt _ (by simpa using hi)).trans (set_perm hi _)
theorem take_swap_perm {l : List (Item K P)} {i : Nat} (hi : i < l.length) : ((swapL l i (l.length - 1)).take (l.length - 1)).Perm (l.eraseIdx i) := by
  have hp := swapL_perm l hi (by omega : l.length - 1 < l.length)
  have hlen := swapL_len l i (l.length - 1)
  have hlast : (swapL l i (l.length - 1)) = (swapL l i (l.length - 1)).take (l.length - 1) ++ [at_ l i] := by
    apply List.ext_getElem?
    intro m
    by_cases hm : m < l.length
    · rw [at_get (by rw [hlen]; exact hm)]
      by_cases e : m = l.length - 1
      · rw [List.getElem?_append_right (by simp; omega), at_swap l hi (by omega) hm, if_pos e]
        simp [hlen, e]
      · rw [List.getElem?_append_left (by simp; omega), List.getElem?_take, if_pos (by omega), at_get (by rw [hlen]; exact hm)]
    · rw [List.getElem?_eq_none (by omega), List.getElem?_eq_none (by simp; omega)]
  have h2 : l.Perm (l.eraseIdx i ++ [at_ l i]) := by
    have := set_perm hi (at_ l i)
    have e : l.set i (at_ l i) = l := by rw [at_eq hi]; exact List.set_getElem_self hi
    rw [e] at this
    exact this
  have h3 := hp.trans h2
  rw [hlast] at h3
  exact (List.perm_append_right_iff _).1 h3
theorem dropL_perm (lt : P → P → Bool) {l : List (Item K P)} {i : Nat} (hi : i < l.length) : (dropL lt l i).Perm (l.eraseIdx i) := by
  unfold dropL
  split
  · rename_i h
    exact (fixL_perm lt _ (by simp [swapL_len]; omega)).trans (take_swap_perm hi)
  · exact take_swap_perm hi
theorem putL_ok {lt : P → P → Bool} (hw : Swo lt) {l : List (Item K P)} (h : HeapOK lt l) (c : Int) (k : K) (r : P) : HeapOK lt (putL lt l c k r) := by
  unfold putL
  cases e : idxL l k with
  | none => exact fix_ok hw (by simp) (append_up h _)
  | some i => exact fix_ok hw (by simpa using (idx_some e).1) (set_up hw h (idx_some e).1 _)
theorem take_swap_set {l : List (Item K P)} {i : Nat} (hi : i < l.length - 1) : (swapL l i (l.length - 1)).take (l.length - 1) = (l.take (l.length - 1)).set i (at_ l (l.length - 1)) := by
  apply List.ext_getElem?
  intro m
  rw [List.getElem?_take]
  by_cases hm : m < l.length - 1
  · rw [if_pos hm, at_get (by rw [swapL_len]; omega), at_get (by simp; omega), at_swap l (by omega) (by omega) (by omega), at_set _ _ _ _ (by simp; omega), if_neg (by omega), at_take l _ hm]
    by_cases e : m = i
    · subst e; simp
    · rw [if_neg e, if_neg (fun q => e q.symm)]
  · rw [if_neg hm, List.getElem?_eq_none (by simp; omega)]
theorem dropL_ok {lt : P → P → Bool} (hw : Swo lt) {l : List (Item K P)} (h : HeapOK lt l) {i : Nat} (hi : i < l.length) : HeapOK lt (dropL lt l i) := by
  unfold dropL
  split
  · rename_i hlt
    rw [take_swap_set hlt]
    exact fix_ok hw (by simp; omega) (set_up hw (take_ok h _) (by simp; omega) _)
  · rename_i hge
    have e : i = l.length - 1 := by omega
    subst e
    intro j h0 hj
    have hj' : j < l.length - 1 := by simp [swapL_len] at hj; omega
    rw [at_take _ _ hj', at_take _ _ (by omega), at_swap l hi hi (by omega), at_swap l hi hi (by omega), if_neg (by omega), if_neg (by omega), if_neg (by omega), if_neg (by omega)]
    exact h j h0 (by omega)
end Go.Proofs.Ytgbfhhmmkhjhhaa.HeapP
namespace Go.Proofs.Ytgbfhhmmkhjhhaa.HeapP
set_option linter.unusedVariables false
set_option linter.unusedSectionVars false
set_option linter.unusedSimpArgs false
variable {K P : Type} [Inhabited K] [Inhabited P] [DecidableEq K]
/-- l holds what M holds; M is in the order in which they came -/
structure RelM (l : List (Item K P)) (c : Int) (M : List (Item K P)) : Prop where
  perm : l.Perm M
  keys : Keys l
  asc : M.Pairwise (fun x y => x.2.2 < y.2.2)
  le : ∀ x ∈ M, x.2.2 ≤ c
theorem RelM.empty : RelM ([] : List (Item K P)) 0 [] := ⟨List.Perm.refl _, by simp [Keys], List.Pairwise.nil, by simp⟩
theorem RelM.keysM {l : List (Item K P)} {c : Int} {M : List (Item K P)} (h : RelM l c M) : Keys M := h.keys.perm h.perm.symm
theorem keys_filter {l : List (Item K P)} (h : Keys l) (p : Item K P → Bool) : Keys (l.filter p) := by
  unfold Keys at *
  exact h.sublist (List.filter_sublist.map _)
theorem RelM.put {lt : P → P → Bool} {l : List (Item K P)} {c : Int} {M : List (Item K P)} (h : RelM l c M) (k : K) (r : P) : RelM (putL lt l (c + 1) k r) (c + 1) (M.filter (fun x => decide (x.1 ≠ k)) ++ [(k, r, c + 1)]) := by
  have hp : (putL lt l (c + 1) k r).Perm (M.filter (fun x => decide (x.1 ≠ k)) ++ [(k, r, c + 1)]) := (putL_perm lt h.keys (c + 1) k r).trans ((h.perm.filter _).append_right _)
  have hk : Keys (M.filter (fun x => decide (x.1 ≠ k)) ++ [(k, r, c + 1)]) := by
    refine keys_append (keys_filter h.keysM _) (idx_none.2 fun x hx => ?_)
    have := (List.mem_filter.1 hx).2
    simpa using this
  refine ⟨hp, hk.perm hp, ?_, ?_⟩
  · rw [List.pairwise_append]
    refine ⟨h.asc.filter _, by simp, fun x hx y hy => ?_⟩
    simp at hy
    subst hy
    have := h.le x (List.mem_filter.1 hx).1
    show x.2.2 < c + 1
    omega
  · intro x hx
    rcases List.mem_append.1 hx with q | q
    · have := h.le x (List.mem_filter.1 q).1
      omega
    · simp at q
      subst q
      exact Int.le_refl _
theorem RelM.drop {lt : P → P → Bool} {l : List (Item K P)} {c : Int} {M : List (Item K P)} (h : RelM l c M) {k : K} {i : Nat} (hi : idxL l k = some i) : RelM (dropL lt l i) c (M.filter (fun x => decide (x.1 ≠ k))) := by
  have hp : (dropL lt l i).Perm (M.filter (fun x => decide (x.1 ≠ k))) := by
    refine (dropL_perm lt (idx_some hi).1).trans ?_
    rw [← filter_erase h.keys hi]
    exact h.perm.filter _
  exact ⟨hp, (keys_filter h.keysM _).perm hp, h.asc.filter _, fun x hx => h.le x (List.mem_filter.1 hx).1⟩
theorem RelM.idx {l : List (Item K P)} {c : Int} {M : List (Item K P)} (h : RelM l c M) {k : K} : idxL l k = none ↔ idxL M k = none := by
  rw [idx_none, idx_none]
  exact ⟨fun q x hx => q x (h.perm.mem_iff.2 hx), fun q x hx => q x (h.perm.mem_iff.1 hx)⟩
theorem at_mem {l : List (Item K P)} {i : Nat} (h : i < l.length) : at_ l i ∈ l := by
  rw [at_eq h]
  exact List.getElem_mem h
theorem same_key {l : List (Item K P)} (h : Keys l) {x y : Item K P} (hx : x ∈ l) (hy : y ∈ l) (e : x.1 = y.1) : x = y := by
  obtain ⟨i, hi, rfl⟩ := List.getElem_of_mem hx
  obtain ⟨j, hj, rfl⟩ := List.getElem_of_mem hy
  have := key_inj h hi hj (by rw [at_eq hi, at_eq hj]; exact e)
  subst this
  rfl
theorem RelM.rank {l : List (Item K P)} {c : Int} {M : List (Item K P)} (h : RelM l c M) {k : K} {i j : Nat} (hi : idxL l k = some i) (hj : idxL M k = some j) : at_ l i = at_ M j := by
  obtain ⟨a, b⟩ := idx_some hi
  obtain ⟨a', b'⟩ := idx_some hj
  exact same_key h.keysM (h.perm.mem_iff.1 (at_mem a)) (at_mem a') (b.trans b'.symm)
/-- the place of the first one of the least -/
def leastF (lt : P → P → Bool) (rk : Nat → P) : Nat → Option Nat
  | 0 => none
  | n + 1 => match leastF lt rk n with
    | none => some n
    | some b => if lt (rk n) (rk b) = true then some n else some b
theorem leastF_spec {lt : P → P → Bool} (hw : Swo lt) (rk : Nat → P) : ∀ n, (n = 0 ∧ leastF lt rk n = none) ∨ ∃ b, leastF lt rk n = some b ∧ b < n ∧ ∀ i, i < n → lt (rk i) (rk b) = false ∧ (i < b → lt (rk b) (rk i) = true)
  | 0 => Or.inl ⟨rfl, rfl⟩
  | n + 1 => by
    right
    unfold leastF
    rcases leastF_spec hw rk n with ⟨h0, h1⟩ | ⟨b, h1, h2, h3⟩
    · rw [h1]
      subst h0
      refine ⟨0, rfl, by omega, fun i hi => ?_⟩
      have : i = 0 := by omega
      subst this
      refine ⟨?_, fun q => absurd q (by omega)⟩
      cases e : lt (rk 0) (rk 0) with
      | false => rfl
      | true => rw [hw.asymm _ _ e] at e; cases e
    · rw [h1]
      show ∃ b', (if lt (rk n) (rk b) = true then some n else some b) = some b' ∧ _
      by_cases e : lt (rk n) (rk b) = true
      · rw [if_pos e]
        refine ⟨n, rfl, by omega, fun i hi => ?_⟩
        by_cases ein : i = n
        · subst ein
          refine ⟨?_, fun q => absurd q (by omega)⟩
          cases e2 : lt (rk i) (rk i) with
          | false => rfl
          | true => rw [hw.asymm _ _ e2] at e2; cases e2
        · have hi' : i < n := by omega
          have e3 : lt (rk n) (rk i) = true := by
            rcases hw.neg _ (rk i) _ e with q | q
            · exact q
            · rw [(h3 i hi').1] at q; cases q
          exact ⟨hw.asymm _ _ e3, fun _ => e3⟩
      · rw [if_neg e]
        refine ⟨b, rfl, by omega, fun i hi => ?_⟩
        by_cases ein : i = n
        · subst ein
          exact ⟨by simpa using e, fun q => absurd q (by omega)⟩
        · exact h3 i (by omega)
theorem Le.came {lt : P → P → Bool} {a b : Item K P} (h1 : Le lt a b) (h2 : Le lt b a) : a.2.2 = b.2.2 := by
  unfold Le aheadB at *
  simp only [Bool.or_eq_false_iff, Bool.and_eq_false_iff, Bool.not_eq_false', decide_eq_false_iff_not] at h1 h2
  obtain ⟨p1, p2⟩ := h1
  obtain ⟨q1, q2⟩ := h2
  rcases p2 with e | e
  · rw [q1] at e; cases e
  · rcases q2 with e' | e'
    · rw [p1] at e'; cases e'
    · omega
theorem asc_inj {M : List (Item K P)} (h : M.Pairwise (fun x y => x.2.2 < y.2.2)) {x y : Item K P} (hx : x ∈ M) (hy : y ∈ M) (e : x.2.2 = y.2.2) : x = y := by
  obtain ⟨i, hi, rfl⟩ := List.getElem_of_mem hx
  obtain ⟨j, hj, rfl⟩ := List.getElem_of_mem hy
  rcases Nat.lt_trichotomy i j with q | q | q
  · have := List.pairwise_iff_getElem.1 h i j hi hj q
    omega
  · subst q; rfl
  · have := List.pairwise_iff_getElem.1 h j i hj hi q
    omega
/-- the one at the front is the first of the least -/
theorem RelM.first {lt : P → P → Bool} (hw : Swo lt) {l : List (Item K P)} {c : Int} {M : List (Item K P)} (h : RelM l c M) (hh : HeapOK lt l) {b : Nat} (hb : leastF lt (fun i => (at_ M i).2.1) M.length = some b) : at_ l 0 = at_ M b ∧ b < M.length ∧ 0 < l.length := by
  have hlen := h.perm.length_eq
  rcases leastF_spec hw (fun i => (at_ M i).2.1) M.length with ⟨_, h1⟩ | ⟨b', h1, h2, h3⟩
  · rw [h1] at hb; cases hb
  · rw [h1] at hb
    cases hb
    have h0 : 0 < l.length := by omega
    refine ⟨?_, h2, h0⟩
    have m0 : at_ l 0 ∈ M := h.perm.mem_iff.1 (at_mem h0)
    have m1 : at_ M b ∈ l := h.perm.mem_iff.2 (at_mem h2)
    obtain ⟨i, hi, ei⟩ := List.getElem_of_mem m1
    have l1 : Le lt (at_ l 0) (at_ M b) := by
      rw [← ei, ← at_eq hi]
      exact heap_min hw hh i i (Nat.le_refl _) hi
    obtain ⟨j, hj, ej⟩ := List.getElem_of_mem m0
    have l2 : Le lt (at_ M b) (at_ l 0) := by
      obtain ⟨p, q⟩ := h3 j hj
      rw [← ej, ← at_eq hj]
      unfold Le aheadB
      simp only [Bool.or_eq_false_iff, Bool.and_eq_false_iff, Bool.not_eq_false', decide_eq_false_iff_not]
      refine ⟨p, ?_⟩
      by_cases hjb : j < b
      · exact Or.inl (q hjb)
      · right
        by_cases e : j = b
        · subst e; omega
        · have := List.pairwise_iff_getElem.1 h.asc b j h2 hj (by omega)
          rw [at_eq hj, at_eq h2]
          omega
    exact asc_inj h.asc m0 (at_mem h2) (Le.came l1 l2)
end Go.Proofs.Ytgbfhhmmkhjhhaa.HeapP
namespace Go.Proofs.Ytgbfhhmmkhjhhaa.HeapW
open Go.RowKit Go.Proofs.YtgbfhhmmkhjhhaaW.PrintWords Go.Proofs.YtgbfhhmmkhjhhaaW.PrintLast Go.Proofs.YtgbfhhmmkhjhhaaW.PrintMore
set_option linter.unusedVariables false
/-- w' is w but for new blocks and for blocks of F -/
structure Chg (F : Nat → Prop) (w w' : World) : Prop where
  os : w'.os = w.os
  tape : w'.tape = w.tape
  output : w'.output = w.output
  size : w.heap.size ≤ w'.heap.size
  block : ∀ k, k < w.heap.size → ¬ F k → w'.heap[k]? = w.heap[k]?
theorem Chg.refl (F : Nat → Prop) (w : World) : Chg F w w := ⟨rfl, rfl, rfl, Nat.le_refl _, fun _ _ _ => rfl⟩
theorem Chg.trans {F : Nat → Prop} {a b c : World} (h : Chg F a b) (k : Chg F b c) : Chg F a c :=
  ⟨k.os.trans h.os, k.tape.trans h.tape, k.output.trans h.output, Nat.le_trans h.size k.size, fun i hi hf => (k.block i (Nat.lt_of_lt_of_le hi h.size) hf).trans (h.block i hi hf)⟩
/-- behind a step whose own blocks are among F or were not there at the beginning -/
theorem Chg.then {F G : Nat → Prop} {a b c : World} (h : Chg F a b) (k : Chg G b c) (hG : ∀ i, G i → F i ∨ a.heap.size ≤ i) : Chg F a c :=
  ⟨k.os.trans h.os, k.tape.trans h.tape, k.output.trans h.output, Nat.le_trans h.size k.size, fun i hi hf => (k.block i (Nat.lt_of_lt_of_le hi h.size) (fun hg => by rcases hG i hg with q | q; exact hf q; omega)).trans (h.block i hi hf)⟩
theorem Chg.mono {F G : Nat → Prop} {a b : World} (h : Chg F a b) (hF : ∀ i, F i → G i) : Chg G a b := ⟨h.os, h.tape, h.output, h.size, fun i hi hg => h.block i hi (fun hf => hg (hF i hf))⟩
theorem Chg.of_below {F : Nat → Prop} {w w' : World} (h : Below w.heap.size w w') : Chg F w w' := ⟨h.os, h.tape, h.output, h.size, fun k hk _ => h.block k hk⟩
theorem Chg.below {F : Nat → Prop} {w w' : World} {B : Nat} (h : Chg F w w') (hB : B ≤ w.heap.size) (hF : ∀ k, F k → B ≤ k) : Below B w w' := ⟨h.os, h.tape, h.output, h.size, fun k hk => h.block k (by omega) (fun hf => by have := hF k hf; omega)⟩
theorem Chg.of_grown {w w' : World} {row : Option Nat} (h : w.grownBy w' row) : Chg (fun k => some k = row) w w' := ⟨h.os, h.tape, h.output, h.size, fun k hk hf => h.block k hk hf⟩
theorem Chg.alloc {F : Nat → Prop} {a w : World} (h : Chg F a w) (o : Obj) : Chg F a (w.alloc o) := h.then (Chg.of_below (F := fun _ => False) (below_alloc (Below.refl _ _) o)) (fun _ hf => hf.elim)
theorem Chg.setCell {F : Nat → Prop} {a w : World} (h : Chg F a w) {p : Addr} (hp : F p.block ∨ a.heap.size ≤ p.block) (u : Value) : Chg F a (w.setCell p u) :=
  ⟨h.os, h.tape, h.output, by have := h.size; simpa [World.setCell] using this, fun k hk hf => by
    have hne : k ≠ p.block := fun e => by rcases hp with q | q; exact hf (e ▸ q); omega
    rw [Below.heap_setCell _ _ _ _ hne]
    exact h.block k hk hf⟩
theorem Chg.drewN {F : Nat → Prop} {a w : World} (h : Chg F a w) (n : Nat) : Chg F a (w.drewN n) := ⟨h.os, h.tape, h.output, h.size, h.block⟩
theorem Chg.heap {F : Nat → Prop} {w w' : World} (h : Chg F w w') {k : Nat} {o : Obj} (hk : w.heap[k]? = some o) (hf : ¬ F k) : w'.heap[k]? = some o := (h.block k (blk_lt hk) hf).trans hk

theorem Chg.keep {F G : Nat → Prop} {a b : World} (h : Chg F a b) (hF : ∀ i, F i → i < a.heap.size → G i) : Chg G a b := ⟨h.os, h.tape, h.output, h.size, fun i hi hg => h.block i hi (fun hf => hg (hF i hf hi))⟩
end Go.Proofs.Ytgbfhhmmkhjhhaa.HeapW
namespace Go.Proofs.Ytgbfhhmmkhjhhaa.Dij
open Go.Proofs.Ytgbfhhmmkhjhhaa.HeapP
set_option linter.unusedVariables false
set_option linter.unusedSimpArgs false
abbrev Rd := Int × Int × Int
abbrev It := Int × (Int × Int) × Int
def lex (a b : Int × Int) : Bool := decide (a.1 < b.1) || (decide (a.1 = b.1) && decide (a.2 < b.2))
theorem lex_iff {a b : Int × Int} : lex a b = true ↔ a.1 < b.1 ∨ (a.1 = b.1 ∧ a.2 < b.2) := by
  unfold lex
  rw [Bool.or_eq_true, Bool.and_eq_true, decide_eq_true_iff, decide_eq_true_iff, decide_eq_true_iff]
theorem lex_no {a b : Int × Int} : lex a b = false ↔ ¬ (a.1 < b.1 ∨ (a.1 = b.1 ∧ a.2 < b.2)) := by
  rw [← lex_iff]
  cases lex a b <;> simp
theorem lex_swo : Swo lex where
  asymm a b h := by
    rw [lex_iff] at h
    rw [lex_no]
    omega
  neg a b c h := by
    rw [lex_iff] at h
    rw [lex_iff, lex_iff]
    omega
def cv (c : List Int) (v : Int) : Int := c.getD v.toNat (-1)
theorem cv_set {c : List Int} {u v x : Int} (h0 : 0 ≤ u) (h1 : u.toNat < c.length) (hv : 0 ≤ v) : cv (c.set u.toNat x) v = if v = u then x else cv c v := by
  unfold cv
  rw [List.getD_eq_getElem?_getD, List.getElem?_set, List.getD_eq_getElem?_getD]
  by_cases e : v = u
  · subst e
    rw [if_pos rfl, if_pos rfl, if_pos h1]
    rfl
  · rw [if_neg e, if_neg (by omega)]
theorem cv_get {c : List Int} {v : Int} (h : v.toNat < c.length) : c[v.toNat]? = some (cv c v) := by
  unfold cv
  rw [List.getD_eq_getElem?_getD, List.getElem?_eq_getElem h]
  rfl
theorem cv_rep {n : Nat} (v : Int) : cv (List.replicate n (-1)) v = -1 := by
  unfold cv
  rw [List.getD_eq_getElem?_getD, List.getElem?_replicate]
  split <;> rfl
structure Net (n : Nat) (out : Int → List Rd) : Prop where
  road : ∀ (u : Int) (r : Rd), 0 ≤ u → u < n → r ∈ out u → 0 ≤ r.2.1 ∧ r.2.1 < n ∧ 1 ≤ r.2.2 ∧ r.2.2 ≤ 1048576
/-- o: the nodes whose costs stand, in order; M: the heap; outp: the roads that were looked at -/
structure DInv (n : Nat) (out outp : Int → List Rd) (s : Int) (c : List Int) (o : List Int) (M : List It) : Prop where
  len : c.length = n
  ge : ∀ v : Int, 0 ≤ v → -1 ≤ cv c v
  isn : ∀ v ∈ o, 0 ≤ v ∧ v < n ∧ 0 ≤ cv c v
  all : ∀ v : Int, 0 ≤ v → v < n → 0 ≤ cv c v → v ∈ o
  ord : o.Pairwise (fun u v => lex (cv c u, u) (cv c v, v) = true)
  item : ∀ x ∈ M, x.2.1.2 = x.1 ∧ 0 ≤ x.1 ∧ x.1 < n ∧ cv c x.1 = -1 ∧ 0 ≤ x.2.1.1 ∧ x.2.1.1 ≤ 1048576 * (o.length : Int)
  most : ∀ v ∈ o, cv c v ≤ 1048576 * ((o.length : Int) - 1)
  ahead : ∀ v ∈ o, ∀ x ∈ M, lex (cv c v, v) x.2.1 = true
  over : ∀ v ∈ o, ∀ r ∈ outp v, (0 ≤ cv c r.2.1 ∧ cv c r.2.1 ≤ cv c v + r.2.2) ∨ ∃ x ∈ M, x.1 = r.2.1 ∧ x.2.1.1 ≤ cv c v + r.2.2
  byc : ∀ v ∈ o, v ≠ s → ∃ u ∈ o, ∃ r ∈ out u, r.2.1 = v ∧ cv c v = cv c u + r.2.2
  bym : ∀ x ∈ M, (x.1 = s ∧ x.2.1.1 = 0) ∨ ∃ u ∈ o, ∃ r ∈ out u, r.2.1 = x.1 ∧ x.2.1.1 = cv c u + r.2.2
  st : cv c s = 0 ∨ ∃ x ∈ M, x.1 = s ∧ x.2.1.1 = 0
theorem DInv.start {n : Nat} {out : Int → List Rd} {s k : Int} (h0 : 0 ≤ s) (h1 : s < n) : DInv n out out s (List.replicate n (-1)) [] [(s, (0, s), k)] where
  len := List.length_replicate
  ge v _ := by rw [cv_rep]; exact Int.le_refl _
  isn v hv := by simp at hv
  all v _ _ h := by rw [cv_rep] at h; omega
  ord := List.Pairwise.nil
  item x hx := by
    simp at hx
    subst hx
    exact ⟨rfl, h0, h1, cv_rep _, Int.le_refl _, by simp⟩
  most v hv := by simp at hv
  ahead v hv := by simp at hv
  over v hv := by simp at hv
  byc v hv := by simp at hv
  bym x hx := by
    simp at hx
    subst hx
    exact Or.inl ⟨rfl, rfl⟩
  st := Or.inr ⟨_, List.mem_singleton.2 rfl, rfl, rfl⟩
theorem DInv.nodup {n : Nat} {out outp : Int → List Rd} {s : Int} {c o : List Int} {M : List It} (h : DInv n out outp s c o M) : o.Nodup := by
  refine h.ord.imp ?_
  rintro u v e rfl
  rw [lex_iff] at e
  omega
theorem nodup_le {o : List Int} {n : Nat} (h : o.Nodup) (hb : ∀ v ∈ o, 0 ≤ v ∧ v < n) : o.length ≤ n := by
  have h2 : (o.map Int.toNat).Nodup := by
    unfold List.Nodup at *
    rw [List.pairwise_map]
    exact h.imp_of_mem (fun {a b} ha hb' hne => by have := hb a ha; have := hb b hb'; omega)
  have h3 : (o.map Int.toNat) ⊆ List.range n := by
    intro x hx
    obtain ⟨v, hv, rfl⟩ := List.mem_map.1 hx
    have := hb v hv
    rw [List.mem_range]
    omega
  have := List.Nodup.length_le_of_subset h2 h3
  simpa using this
theorem DInv.le {n : Nat} {out outp : Int → List Rd} {s : Int} {c o : List Int} {M : List It} (h : DInv n out outp s c o M) : o.length ≤ n := nodup_le h.nodup (fun v hv => ⟨(h.isn v hv).1, (h.isn v hv).2.1⟩)
/-- the least one is taken -/
theorem DInv.pop {n : Nat} {out : Int → List Rd} (hN : Net n out) {s : Int} {c o : List Int} {M : List It} (hk : Keys M) (h : DInv n out out s c o M) {b : Nat} (hb : leastF lex (fun i => (at_ M i).2.1) M.length = some b) {x : It} (hx : x = at_ M b) :
    DInv n out (fun v => if v = x.1 then [] else out v) s (c.set x.1.toNat x.2.1.1) (o ++ [x.1]) (M.filter (fun y => decide (y.1 ≠ x.1))) ∧ x.1 ∉ o ∧ (∀ v ∈ o ++ [x.1], cv (c.set x.1.toNat x.2.1.1) v ≤ x.2.1.1) ∧ cv (c.set x.1.toNat x.2.1.1) x.1 = x.2.1.1 ∧ 0 ≤ x.1 ∧ x.1 < n ∧ 0 ≤ x.2.1.1 ∧ x.2.1.1 ≤ 1048576 * (o.length : Int) := by
  rcases leastF_spec lex_swo (fun i => (at_ M i).2.1) M.length with ⟨_, h1⟩ | ⟨b', h1, h2, h3⟩
  · rw [h1] at hb; cases hb
  rw [h1] at hb
  cases hb
  have hxM : x ∈ M := hx ▸ at_mem h2
  obtain ⟨i1, i2, i3, i4, i5, i6⟩ := h.item x hxM
  have hl : x.1.toNat < c.length := by rw [h.len]; omega
  have hcs : ∀ v, 0 ≤ v → cv (c.set x.1.toNat x.2.1.1) v = if v = x.1 then x.2.1.1 else cv c v := fun v hv => cv_set i2 hl hv
  have hno : x.1 ∉ o := fun q => by have := (h.isn _ q).2.2; omega
  have hne : ∀ v ∈ o, v ≠ x.1 := fun v hv e => hno (e ▸ hv)
  have hcx : cv (c.set x.1.toNat x.2.1.1) x.1 = x.2.1.1 := by rw [hcs _ i2, if_pos rfl]
  have hco : ∀ v ∈ o, cv (c.set x.1.toNat x.2.1.1) v = cv c v := fun v hv => by rw [hcs v (h.isn v hv).1, if_neg (hne v hv)]
  have hmin : ∀ y ∈ M, y.1 ≠ x.1 → lex x.2.1 y.2.1 = true := by
    intro y hy hyx
    obtain ⟨j, hj, ej⟩ := List.getElem_of_mem hy
    have e1 := (h3 j hj).1
    have e2 : at_ M j = y := by rw [at_eq hj, ej]
    simp only [e2] at e1
    rw [← hx] at e1
    rw [lex_no] at e1
    rw [lex_iff]
    have := (h.item y hy).1
    omega
  have hpre : ∀ v ∈ o, cv c v ≤ x.2.1.1 := fun v hv => by
    have := h.ahead v hv x hxM
    rw [lex_iff] at this
    simp only at this
    omega
  have hby : ∀ u ∈ o, ∀ r ∈ out u, ∃ u' ∈ o ++ [x.1], ∃ r' ∈ out u', r' = r ∧ cv (c.set x.1.toNat x.2.1.1) u' = cv c u := fun u hu r hr => ⟨u, List.mem_append.2 (Or.inl hu), r, hr, rfl, hco u hu⟩
  refine ⟨⟨by rw [List.length_set]; exact h.len, ?_, ?_, ?_, ?_, ?_, ?_, ?_, ?_, ?_, ?_, ?_⟩, hno, ?_, hcx, i2, i3, i5, i6⟩
  · intro v hv
    rw [hcs v hv]
    split
    · omega
    · exact h.ge v hv
  · intro v hv
    rcases List.mem_append.1 hv with q | q
    · rw [hco v q]; exact h.isn v q
    · simp at q
      subst q
      rw [hcx]
      exact ⟨i2, i3, i5⟩
  · intro v v0 v1 v2
    rw [hcs v v0] at v2
    by_cases e : v = x.1
    · exact List.mem_append.2 (Or.inr (by simp [e]))
    · rw [if_neg e] at v2
      exact List.mem_append.2 (Or.inl (h.all v v0 v1 v2))
  · rw [List.pairwise_append]
    refine ⟨h.ord.imp_of_mem (fun {a b} ha hb' q => by rw [hco a ha, hco b hb']; exact q), by simp, fun u hu v hv => ?_⟩
    simp at hv
    subst hv
    rw [hco u hu, hcx]
    have := h.ahead u hu x hxM
    rw [lex_iff] at this ⊢
    simp only at this ⊢
    omega
  · intro y hy
    obtain ⟨hyM, hyn⟩ := List.mem_filter.1 hy
    simp at hyn
    obtain ⟨j1, j2, j3, j4, j5, j6⟩ := h.item y hyM
    refine ⟨j1, j2, j3, ?_, j5, ?_⟩
    · rw [hcs _ j2, if_neg hyn]; exact j4
    · rw [List.length_append]; simp; omega
  · intro v hv
    rw [List.length_append]
    simp only [List.length_singleton, Int.natCast_add]
    rcases List.mem_append.1 hv with q | q
    · rw [hco v q]
      have := h.most v q
      omega
    · simp at q
      subst q
      rw [hcx]
      omega
  · intro v hv y hy
    obtain ⟨hyM, hyn⟩ := List.mem_filter.1 hy
    simp at hyn
    rcases List.mem_append.1 hv with q | q
    · rw [hco v q]; exact h.ahead v q y hyM
    · simp at q
      subst q
      rw [hcx]
      have := hmin y hyM hyn
      rw [lex_iff] at this ⊢
      simp only at this ⊢
      omega
  · intro v hv r hr
    rcases List.mem_append.1 hv with q | q
    · have hr2 : r ∈ out v := by
        have : (if v = x.1 then ([] : List Rd) else out v) = out v := if_neg (hne v q)
        simpa [this] using hr
      have hr0 := (hN.road v r (h.isn v q).1 (h.isn v q).2.1 hr2).1
      rw [hco v q]
      rcases h.over v q r hr2 with ⟨k1, k2⟩ | ⟨y, hy, k1, k2⟩
      · left
        rw [hcs _ hr0]
        by_cases e : r.2.1 = x.1
        · rw [e] at k1; omega
        · rw [if_neg e]; exact ⟨k1, k2⟩
      · by_cases e : y.1 = x.1
        · left
          have hyx : y = x := same_key hk hy hxM e
          subst hyx
          rw [← k1, hcx]
          exact ⟨i5, k2⟩
        · right
          exact ⟨y, List.mem_filter.2 ⟨hy, by simp [e]⟩, k1, k2⟩
    · simp at q
      subst q
      simp at hr
  · intro v hv hvs
    rcases List.mem_append.1 hv with q | q
    · obtain ⟨u, hu, r, hr, e1, e2⟩ := h.byc v q hvs
      exact ⟨u, List.mem_append.2 (Or.inl hu), r, hr, e1, by rw [hco v q, hco u hu]; exact e2⟩
    · simp at q
      subst q
      rcases h.bym x hxM with ⟨e1, _⟩ | ⟨u, hu, r, hr, e1, e2⟩
      · exact absurd e1 hvs
      · exact ⟨u, List.mem_append.2 (Or.inl hu), r, hr, e1, by rw [hcx, hco u hu]; exact e2⟩
  · intro y hy
    obtain ⟨hyM, hyn⟩ := List.mem_filter.1 hy
    rcases h.bym y hyM with q | ⟨u, hu, r, hr, e1, e2⟩
    · exact Or.inl q
    · exact Or.inr ⟨u, List.mem_append.2 (Or.inl hu), r, hr, e1, by rw [hco u hu]; exact e2⟩
  · rcases h.st with q | ⟨y, hy, e1, e2⟩
    · left
      have hs : s ≠ x.1 := fun e => by rw [e, i4] at q; omega
      by_cases hs0 : 0 ≤ s
      · rw [hcs s hs0, if_neg hs]; exact q
      · unfold cv at q ⊢
        rw [List.getD_eq_getElem?_getD, List.getElem?_set]
        rw [List.getD_eq_getElem?_getD] at q
        by_cases e : x.1.toNat = s.toNat
        · have e0 : x.1 = 0 := by omega
          have e1 : cv c x.1 = 0 := by
            unfold cv
            rw [List.getD_eq_getElem?_getD, e]
            exact q
          omega
        · rw [if_neg e]; exact q
    · by_cases e : y.1 = x.1
      · have hyx : y = x := same_key hk hy hxM e
        subst hyx
        left
        rw [← e1, hcx, e2]
      · exact Or.inr ⟨y, List.mem_filter.2 ⟨hy, by simp [e]⟩, e1, e2⟩
  · intro v hv
    rcases List.mem_append.1 hv with q | q
    · rw [hco v q]; exact hpre v q
    · simp at q
      subst q
      rw [hcx]
      exact Int.le_refl _
/-- a road was looked at that changes nothing, or whose end comes into the heap -/
theorem DInv.over' {n : Nat} {out outp outq : Int → List Rd} {s : Int} {c o : List Int} {M : List It} (h : DInv n out outp s c o M)
    (hq : ∀ v ∈ o, ∀ r ∈ outq v, r ∈ outp v ∨ (0 ≤ cv c r.2.1 ∧ cv c r.2.1 ≤ cv c v + r.2.2) ∨ ∃ x ∈ M, x.1 = r.2.1 ∧ x.2.1.1 ≤ cv c v + r.2.2) : DInv n out outq s c o M :=
  ⟨h.len, h.ge, h.isn, h.all, h.ord, h.item, h.most, h.ahead, fun v hv r hr => by
    rcases hq v hv r hr with q | q
    · exact h.over v hv r q
    · exact q, h.byc, h.bym, h.st⟩
theorem DInv.put {n : Nat} {out outp : Int → List Rd} {s : Int} {c o : List Int} {M : List It} (hk : Keys M) (h : DInv n out outp s c o M) {u : Int} {r : Rd} (hu : u ∈ o) (hr : r ∈ out u) (h1 : 1 ≤ r.2.2) (h2 : r.2.2 ≤ 1048576) (h0 : 0 ≤ r.2.1) (hn : r.2.1 < n) (hcur : ∀ v ∈ o, cv c v ≤ cv c u) (hc : cv c r.2.1 = -1) (hM : ∀ x ∈ M, x.1 = r.2.1 → cv c u + r.2.2 < x.2.1.1) (k : Int) :
    DInv n out outp s c o (M.filter (fun y => decide (y.1 ≠ r.2.1)) ++ [(r.2.1, (cv c u + r.2.2, r.2.1), k)]) := by
  have hu0 := (h.isn u hu).2.2
  have hum := h.most u hu
  have hmem : ∀ x, x ∈ M.filter (fun y => decide (y.1 ≠ r.2.1)) ++ [(r.2.1, (cv c u + r.2.2, r.2.1), k)] ↔ (x ∈ M ∧ x.1 ≠ r.2.1) ∨ x = (r.2.1, (cv c u + r.2.2, r.2.1), k) := by
    intro x
    rw [List.mem_append, List.mem_filter]
    simp
  refine ⟨h.len, h.ge, h.isn, h.all, h.ord, ?_, h.most, ?_, ?_, h.byc, ?_, ?_⟩
  · intro x hx
    rcases (hmem x).1 hx with ⟨q, _⟩ | rfl
    · exact h.item x q
    · exact ⟨rfl, h0, hn, hc, by show 0 ≤ cv c u + r.2.2; omega, by show cv c u + r.2.2 ≤ _; omega⟩
  · intro v hv x hx
    rcases (hmem x).1 hx with ⟨q, _⟩ | rfl
    · exact h.ahead v hv x q
    · rw [lex_iff]
      have := hcur v hv
      left
      show cv c v < cv c u + r.2.2
      omega
  · intro v hv r' hr'
    rcases h.over v hv r' hr' with q | ⟨x, hx, e1, e2⟩
    · exact Or.inl q
    · right
      by_cases e : x.1 = r.2.1
      · refine ⟨_, (hmem _).2 (Or.inr rfl), by show r.2.1 = _; rw [← e1, e], ?_⟩
        have := hM x hx e
        show cv c u + r.2.2 ≤ _
        omega
      · exact ⟨x, (hmem _).2 (Or.inl ⟨hx, e⟩), e1, e2⟩
  · intro x hx
    rcases (hmem x).1 hx with ⟨q, _⟩ | rfl
    · exact h.bym x q
    · exact Or.inr ⟨u, hu, r, hr, rfl, rfl⟩
  · rcases h.st with q | ⟨x, hx, e1, e2⟩
    · exact Or.inl q
    · by_cases e : x.1 = r.2.1
      · have := hM x hx e
        omega
      · exact Or.inr ⟨x, (hmem _).2 (Or.inl ⟨hx, e⟩), e1, e2⟩
/-- the costs from s -/
structure Dist (n : Nat) (out : Int → List Rd) (s : Int) (c : List Int) : Prop where
  len : c.length = n
  ge : ∀ v : Int, 0 ≤ v → -1 ≤ cv c v
  st : cv c s = 0
  over : ∀ (v : Int) (r : Rd), 0 ≤ v → v < n → 0 ≤ cv c v → r ∈ out v → 0 ≤ cv c r.2.1 ∧ cv c r.2.1 ≤ cv c v + r.2.2
  by_ : ∀ v : Int, 0 ≤ v → v < n → 0 ≤ cv c v → v ≠ s → ∃ u : Int, 0 ≤ u ∧ u < n ∧ 0 ≤ cv c u ∧ ∃ r ∈ out u, r.2.1 = v ∧ cv c v = cv c u + r.2.2
  most : ∀ v : Int, 0 ≤ v → v < n → cv c v ≤ 1048576 * (n : Int)
/-- the nodes that are come to, in order -/
structure Ord (n : Nat) (c o : List Int) : Prop where
  mem : ∀ v : Int, v ∈ o ↔ 0 ≤ v ∧ v < n ∧ 0 ≤ cv c v
  ord : o.Pairwise (fun u v => lex (cv c u, u) (cv c v, v) = true)
theorem DInv.done {n : Nat} {out : Int → List Rd} {s : Int} {c o : List Int} (h : DInv n out out s c o []) (hs : 0 ≤ s ∧ s < n) : Dist n out s c ∧ Ord n c o := by
  refine ⟨⟨h.len, h.ge, ?_, ?_, ?_, ?_⟩, ⟨fun v => ⟨h.isn v, fun q => h.all v q.1 q.2.1 q.2.2⟩, h.ord⟩⟩
  · rcases h.st with q | ⟨x, hx, _⟩
    · exact q
    · simp at hx
  · intro v r v0 v1 v2 hr
    rcases h.over v (h.all v v0 v1 v2) r hr with q | ⟨x, hx, _⟩
    · exact q
    · simp at hx
  · intro v v0 v1 v2 hv
    obtain ⟨u, hu, q⟩ := h.byc v (h.all v v0 v1 v2) hv
    obtain ⟨a, b, d⟩ := h.isn u hu
    exact ⟨u, a, b, d, q⟩
  · intro v v0 v1
    by_cases e : 0 ≤ cv c v
    · have := h.most v (h.all v v0 v1 e)
      have := h.le
      omega
    · omega
theorem Dist.le {n : Nat} {out : Int → List Rd} (hN : Net n out) {s : Int} {c d : List Int} (hc : Dist n out s c) (hd : Dist n out s d) : ∀ (k : Nat) (v : Int), 0 ≤ v → v < n → 0 ≤ cv d v → cv d v ≤ k → 0 ≤ cv c v ∧ cv c v ≤ cv d v := by
  intro k
  induction k with
  | zero =>
    intro v v0 v1 v2 v3
    by_cases e : v = s
    · subst e
      rw [hc.st, hd.st]
      omega
    · obtain ⟨u, u0, u1, u2, r, hr, e1, e2⟩ := hd.by_ v v0 v1 v2 e
      have := hN.road u r u0 u1 hr
      omega
  | succ k ih =>
    intro v v0 v1 v2 v3
    by_cases e : v = s
    · subst e
      rw [hc.st, hd.st]
      omega
    · obtain ⟨u, u0, u1, u2, r, hr, e1, e2⟩ := hd.by_ v v0 v1 v2 e
      have := hN.road u r u0 u1 hr
      obtain ⟨p, q⟩ := ih u u0 u1 u2 (by omega)
      have := hc.over u r u0 u1 p hr
      rw [e1] at this
      omega
theorem Dist.uniq {n : Nat} {out : Int → List Rd} (hN : Net n out) {s : Int} {c d : List Int} (hc : Dist n out s c) (hd : Dist n out s d) : c = d := by
  apply List.ext_getElem?
  intro i
  by_cases hi : i < n
  · have e1 := cv_get (c := c) (v := (i : Int)) (by rw [hc.len]; omega)
    have e2 := cv_get (c := d) (v := (i : Int)) (by rw [hd.len]; omega)
    rw [Int.toNat_natCast] at e1 e2
    rw [e1, e2]
    congr 1
    have a := hc.ge (i : Int) (by omega)
    have b := hd.ge (i : Int) (by omega)
    by_cases q : 0 ≤ cv d (i : Int)
    · obtain ⟨p1, p2⟩ := Dist.le hN hc hd (cv d (i : Int)).toNat i (by omega) (by omega) q (by omega)
      obtain ⟨p3, p4⟩ := Dist.le hN hd hc (cv c (i : Int)).toNat i (by omega) (by omega) p1 (by omega)
      omega
    · by_cases q2 : 0 ≤ cv c (i : Int)
      · obtain ⟨p1, p2⟩ := Dist.le hN hd hc (cv c (i : Int)).toNat i (by omega) (by omega) q2 (by omega)
        omega
      · omega
  · rw [List.getElem?_eq_none (by rw [hc.len]; omega), List.getElem?_eq_none (by rw [hd.len]; omega)]
theorem Ord.uniq {n : Nat} {c o p : List Int} (ho : Ord n c o) (hp : Ord n c p) : o = p := by
  refine List.Perm.eq_of_pairwise (le := fun u v => lex (cv c u, u) (cv c v, v) = true) ?_ ho.ord hp.ord ?_
  · intro a b _ _ h1 h2
    rw [lex_iff] at h1 h2
    simp only at h1 h2
    omega
  · have nd : ∀ {q : List Int}, q.Pairwise (fun u v => lex (cv c u, u) (cv c v, v) = true) → q.Nodup := fun hq => hq.imp (by
      rintro u v e rfl
      rw [lex_iff] at e
      omega)
    rw [List.perm_ext_iff_of_nodup (nd ho.ord) (nd hp.ord)]
    intro a
    rw [ho.mem, hp.mem]
end Go.Proofs.Ytgbfhhmmkhjhhaa.Dij
