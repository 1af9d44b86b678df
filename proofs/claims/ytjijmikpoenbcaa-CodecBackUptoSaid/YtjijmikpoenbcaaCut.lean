/- What was put is read, and cut off it is a fault. Conditions: those that stand in each theorem. Written in this session. -/
import Derived.Test.YtjijmikpoenbcaaCanon
namespace Go.Proofs.Ytjijmikpoenbcaa.Codec
open Go.RowKit Go.Proofs.YtjijmikpoenbcaaW.PrintWords Go.Proofs.YtjijmikpoenbcaaW.PrintLast Go.Proofs.YtjijmikpoenbcaaW.PrintMore
set_option linter.unusedVariables false
theorem top9 {m i : Nat} (hm : m * 128 ^ i < 18446744073709551616) (h : i = 9) : m ≤ 1 := by
  subst h
  have : (128 : Nat) ^ 9 = 9223372036854775808 := by decide
  rw [this] at hm
  omega
theorem step_top {m i : Nat} (hm : m * 128 ^ i < 18446744073709551616) : m / 128 * 128 ^ (i + 1) < 18446744073709551616 := by
  rw [Nat.pow_succ, Nat.mul_comm (128 ^ i) 128, ← Nat.mul_assoc]
  exact Nat.lt_of_le_of_lt (Nat.mul_le_mul_right _ (Nat.div_mul_le_self m 128)) hm
theorem num_read (rest : List Int) : ∀ k i acc m, i + k = 10 → 0 < k → (0 < i → 0 < m) → m * 128 ^ i < 18446744073709551616 → numR i acc (varF k m ++ rest) = (acc + m * 128 ^ i, 0, rest, 0) := by
  intro k
  induction k with
  | zero => intro i acc m _ h; omega
  | succ k ih =>
    intro i acc m hi _ hp hm
    have h9 := fun h => top9 hm h
    rw [varF]
    by_cases h : m < 128
    · rw [if_pos h]
      rw [List.cons_append, List.nil_append, numR, if_neg (by
        rintro (⟨e, q⟩ | ⟨q, e⟩)
        · have := h9 e; omega
        · have := hp q; omega), if_pos (by omega)]
      have e : ((m : Int)).toNat % 128 = m := by omega
      rw [e]
    · rw [if_neg h]
      rw [List.cons_append]
      have hk : 0 < k := by
        rcases Nat.eq_zero_or_pos k with hk | hk
        · have := h9 (by omega); omega
        · exact hk
      rw [numR, if_neg (by
        rintro (⟨e, q⟩ | ⟨q, e⟩)
        · have := h9 e; omega
        · omega), if_neg (by omega), ih (i + 1) _ (m / 128) (by omega) hk (fun _ => by omega) (step_top hm)]
      have : (((m % 128 + 128 : Nat) : Int)).toNat % 128 = m % 128 := by omega
      rw [this, Nat.pow_succ, Nat.add_assoc, Nat.mul_comm (128 ^ i) 128, ← Nat.mul_assoc, ← Nat.add_mul]
      have : m % 128 + m / 128 * 128 = m := by omega
      rw [this]
theorem num_cut : ∀ k i acc m j, i + k = 10 → 0 < k → (0 < i → 0 < m) → m * 128 ^ i < 18446744073709551616 → j < (varF k m).length → numR i acc ((varF k m).take j) = (0, 20, [], 20) := by
  intro k
  induction k with
  | zero => intro i acc m j _ h; omega
  | succ k ih =>
    intro i acc m j hi _ hp hm hj
    have h9 := fun h => top9 hm h
    rw [varF] at hj ⊢
    by_cases h : m < 128
    · rw [if_pos h] at hj ⊢
      have : j = 0 := by simpa using hj
      subst this
      rfl
    · rw [if_neg h] at hj ⊢
      have hk : 0 < k := by
        rcases Nat.eq_zero_or_pos k with hk | hk
        · have := h9 (by omega); omega
        · exact hk
      cases j with
      | zero => rfl
      | succ j =>
        rw [List.take_succ_cons, numR, if_neg (by
          rintro (⟨e, q⟩ | ⟨q, e⟩)
          · have := h9 e; omega
          · omega), if_neg (by omega)]
        exact ih (i + 1) _ (m / 128) j (by omega) hk (fun _ => by omega) (step_top hm) (by simpa using hj)
theorem var_read (n : Nat) (hn : n < 18446744073709551616) (rest : List Int) : varR (varB n ++ rest) 0 = (n, rest, 0) := by
  have h := num_read rest 10 0 0 n (by omega) (by omega) (by omega) (by simpa using hn)
  have h' : numR 0 0 (varB n ++ rest) = (n, 0, rest, 0) := by simpa [varB] using h
  simp [varR, h']
theorem var_cut (n : Nat) (hn : n < 18446744073709551616) (j : Nat) (hj : j < (varB n).length) : varR ((varB n).take j) 0 = (0, [], 20) := by
  have h := num_cut 10 0 0 n j (by omega) (by omega) (by omega) (by simpa using hn) hj
  have h' : numR 0 0 ((varB n).take j) = (0, 20, [], 20) := h
  simp [varR, h', failE]
theorem varB_pos (n : Nat) : 0 < (varB n).length := by
  unfold varB varF
  split <;> simp
/-- what is known of a thing that was put and is read -/
structure Taken (u : Th) : Prop where
  good : Good u
  ok : (putB u).2 = 0
  room : kindOf u.kind = 6 → (u.t.length : Int) ≤ u.w
theorem turned_top {i : Int} (h : -9223372036854775808 ≤ i ∧ i ≤ 9223372036854775807) : turned i < 18446744073709551616 := by
  unfold turned
  split <;> omega
theorem text_top {u : Th} (h : Taken u) (hk : kindOf u.kind = 6) : u.t.length < 18446744073709551616 := by
  have h1 := h.room hk
  have h2 := h.good.gw
  omega
theorem taken_pos {u : Th} (h : Taken u) : 0 < (putB u).1.length := by
  have hok := h.ok
  rcases kind_cases u.kind with hk | hk | hk | hk | hk | hk | hk
  · simp [putB, hk]
  · have e : putB u = (if wide u.n.toNat u.w = true then ([], 1) else (fixedB u.w.toNat u.n.toNat, 0)) := by simp [putB, hk]
    rw [e] at hok ⊢
    by_cases hw : wide u.n.toNat u.w = true
    · rw [if_pos hw] at hok; exact absurd hok (by decide)
    · rw [if_neg hw]
      show 0 < (fixedB u.w.toNat u.n.toNat).length
      rw [fixedB_len]
      have hq : wide u.n.toNat u.w = false := by simpa using hw
      unfold wide at hq
      simp at hq
      omega
  · have := varB_pos u.n.toNat
    simpa [putB, hk] using this
  · have := varB_pos (turned u.i)
    simpa [putB, hk] using this
  · have := h.good.len
    simp [putB, hk]
    omega
  · simp [putB, hk, pointB]
  · have := varB_pos u.t.length
    simp [putB, hk]
    omega
theorem next_full (n : Nat) (f rest : List Int) (h : f.length = n) : nextR n (f ++ rest) 0 = (f, rest, 0) := by
  unfold nextR
  rw [if_pos rfl, if_neg (by simp; omega)]
  subst h
  simp
theorem next_cut (n : Nat) (l : List Int) (h : l.length < n) : nextR n l 0 = ([], [], 20) := by
  unfold nextR
  rw [if_pos rfl, if_pos h]
theorem took_full {u : Th} (h : Taken u) (rest : List Int) : (tookR u ((putB u).1 ++ rest) 0).2 = (rest, 0) := by
  have hok := h.ok
  rcases kind_cases u.kind with hk | hk | hk | hk | hk | hk | hk
  · have e : putB u = ([u.n % 256], 0) := by simp [putB, hk]
    rw [e]
    simp [tookR, hk, byteR]
  · have e : putB u = (if wide u.n.toNat u.w = true then ([], 1) else (fixedB u.w.toNat u.n.toNat, 0)) := by simp [putB, hk]
    rw [e] at hok ⊢
    by_cases hw : wide u.n.toNat u.w = true
    · rw [if_pos hw] at hok; exact absurd hok (by decide)
    · rw [if_neg hw]
      have hq : wide u.n.toNat u.w = false := by simpa using hw
      have hr : ¬ (u.w < 1 ∨ 8 < u.w) := by
        unfold wide at hq
        simp at hq
        omega
      have := next_full u.w.toNat (fixedB u.w.toNat u.n.toNat) rest (fixedB_len _ _)
      simp [tookR, hk, fixedR, hr, this]
  · have e : putB u = (varB u.n.toNat, 0) := by simp [putB, hk]
    have := var_read u.n.toNat (by have := h.good.gn; omega) rest
    rw [e]
    simp [tookR, hk, this]
  · have e : putB u = (varB (turned u.i), 0) := by simp [putB, hk]
    have := var_read (turned u.i) (turned_top h.good.gi) rest
    rw [e]
    simp [tookR, hk, this]
  · have e : putB u = (u.id, 0) := by simp [putB, hk]
    have hl := h.good.len
    have e2 : idR (u.id ++ rest) 0 = (u.id, rest, 0) := by
      unfold idR
      rw [if_pos rfl, if_neg (by simp; omega), ← hl]
      simp
    rw [e]
    simp [tookR, hk, e2]
  · have e : putB u = (pointB u.p.1 u.p.2, 0) := by simp [putB, hk]
    rw [e]
    simp [tookR, hk, pointB, pointR]
  · have e : putB u = (varB u.t.length ++ u.t, 0) := by simp [putB, hk]
    have h1 := var_read u.t.length (text_top h hk) (u.t ++ rest)
    have h2 := next_full u.t.length u.t rest rfl
    have hr := h.room hk
    have e2 : textR u.w (varB u.t.length ++ (u.t ++ rest)) 0 = (u.t, rest, 0) := by
      unfold textR
      rw [h1, if_neg (by omega), if_neg (by show ¬ u.w < ((u.t.length : Nat) : Int); omega), if_neg (by simp)]
      exact h2
    rw [e, List.append_assoc]
    simp [tookR, hk, e2]
theorem took_cut {u : Th} (h : Taken u) (j : Nat) (hj : j < (putB u).1.length) : (tookR u ((putB u).1.take j) 0).2 = ([], 20) := by
  have hok := h.ok
  rcases kind_cases u.kind with hk | hk | hk | hk | hk | hk | hk
  · have e : putB u = ([u.n % 256], 0) := by simp [putB, hk]
    rw [e] at hj ⊢
    have : j = 0 := by simpa using hj
    subst this
    simp [tookR, hk, byteR]
  · have e : putB u = (if wide u.n.toNat u.w = true then ([], 1) else (fixedB u.w.toNat u.n.toNat, 0)) := by simp [putB, hk]
    rw [e] at hok hj ⊢
    by_cases hw : wide u.n.toNat u.w = true
    · rw [if_pos hw] at hok; exact absurd hok (by decide)
    · rw [if_neg hw] at hj ⊢
      have hq : wide u.n.toNat u.w = false := by simpa using hw
      have hr : ¬ (u.w < 1 ∨ 8 < u.w) := by
        unfold wide at hq
        simp at hq
        omega
      have hj' : j < u.w.toNat := by
        have : j < (fixedB u.w.toNat u.n.toNat).length := hj
        rwa [fixedB_len] at this
      have := next_cut u.w.toNat ((fixedB u.w.toNat u.n.toNat).take j) (by rw [List.length_take, fixedB_len]; omega)
      simp [tookR, hk, fixedR, hr, this]
  · have e : putB u = (varB u.n.toNat, 0) := by simp [putB, hk]
    rw [e] at hj ⊢
    have := var_cut u.n.toNat (by have := h.good.gn; omega) j hj
    simp [tookR, hk, this]
  · have e : putB u = (varB (turned u.i), 0) := by simp [putB, hk]
    rw [e] at hj ⊢
    have := var_cut (turned u.i) (turned_top h.good.gi) j hj
    simp [tookR, hk, this]
  · have e : putB u = (u.id, 0) := by simp [putB, hk]
    rw [e] at hj ⊢
    have hl := h.good.len
    have hj' : j < 8 := by have : j < u.id.length := hj; omega
    have e2 : idR (u.id.take j) 0 = (List.replicate 8 0, [], 20) := by
      unfold idR
      rw [if_pos rfl, if_pos (by rw [List.length_take]; omega)]
    simp [tookR, hk, e2]
  · have e : putB u = (pointB u.p.1 u.p.2, 0) := by simp [putB, hk]
    rw [e] at hj ⊢
    have hj' : j < 4 := by simpa [pointB] using hj
    have : pointR ((pointB u.p.1 u.p.2).take j) 0 = ((0, 0), [], 20) := by
      unfold pointB
      match j, hj' with
      | 0, _ => rfl
      | 1, _ => rfl
      | 2, _ => rfl
      | 3, _ => rfl
    simp [tookR, hk, this]
  · have e : putB u = (varB u.t.length ++ u.t, 0) := by simp [putB, hk]
    rw [e] at hj ⊢
    have hr := h.room hk
    have hj' : j < (varB u.t.length).length + u.t.length := by simpa using hj
    have e2 : textR u.w ((varB u.t.length ++ u.t).take j) 0 = ([], [], 20) := by
      unfold textR
      rw [if_neg (by omega)]
      by_cases hc : j < (varB u.t.length).length
      · rw [List.take_append_of_le_length (by omega), var_cut u.t.length (text_top h hk) j hc, if_neg (by show ¬ u.w < ((0 : Nat) : Int); omega), if_neg (by simp)]
        simp [nextR]
      · obtain ⟨d, rfl⟩ : ∃ d, j = (varB u.t.length).length + d := ⟨j - (varB u.t.length).length, by omega⟩
        rw [List.take_length_add_append, var_read u.t.length (text_top h hk), if_neg (by show ¬ u.w < ((u.t.length : Nat) : Int); omega), if_pos (by show (u.t.take d).length < u.t.length; rw [List.length_take]; omega)]
        simp [failE]
    simp [tookR, hk, e2]
/-- the forms of what was taken -/
def forms (us : List Th) : List Int := us.flatMap (fun u => (putB u).1)
theorem forms_cons (u : Th) (us : List Th) : forms (u :: us) = (putB u).1 ++ forms us := rfl
theorem forms_snoc (us : List Th) (u : Th) : forms (us ++ [u]) = forms us ++ (putB u).1 := by simp [forms]
/-- where a reader of bytes that were cut off stands -/
def Cut (us : List Th) (l : List Int) (e : Int) : Prop := (e = 0 ∧ ∃ m, m < (forms us).length ∧ l = (forms us).take m) ∨ (e = 20 ∧ l = [])
theorem cut_step {u : Th} {us : List Th} {l : List Int} {e : Int} (h : Taken u) (hc : Cut (u :: us) l e) : Cut us (tookR u l e).2.1 (tookR u l e).2.2 := by
  rcases hc with ⟨rfl, m, h1, rfl⟩ | ⟨rfl, rfl⟩
  · rw [forms_cons] at h1 ⊢
    by_cases hm : m < (putB u).1.length
    · rw [List.take_append_of_le_length (by omega), took_cut h m hm]
      exact Or.inr ⟨rfl, rfl⟩
    · obtain ⟨d, rfl⟩ : ∃ d, m = (putB u).1.length + d := ⟨m - (putB u).1.length, by omega⟩
      rw [List.take_length_add_append, took_full h]
      rw [List.length_append] at h1
      exact Or.inl ⟨rfl, d, by omega, rfl⟩
  · rw [tookR_dead u 20 (by decide)]
    exact Or.inr ⟨rfl, rfl⟩
theorem cut_end {l : List Int} {e : Int} (h : Cut [] l e) : e = 20 ∧ l = [] := by
  rcases h with ⟨_, m, h1, _⟩ | h
  · simp [forms] at h1
  · exact h
end Go.Proofs.Ytjijmikpoenbcaa.Codec
