/- What is read without a fault has one form: what 'put' makes of the answer are the bytes that were read. Conditions: those that stand in each theorem. Written in this session. -/
import Derived.Test.YtjijmikpoenbcaaStays
namespace Go.Proofs.Ytjijmikpoenbcaa.Codec
open Go.RowKit Go.Proofs.YtjijmikpoenbcaaW.PrintWords Go.Proofs.YtjijmikpoenbcaaW.PrintLast Go.Proofs.YtjijmikpoenbcaaW.PrintMore
set_option linter.unusedVariables false
theorem fixedB_fixN : ∀ (k : Nat) (q : List Int), q.length = k → IsBytes q → fixedB k (fixN q) = q := by
  intro k
  induction k with
  | zero => intro q hq _; rw [List.eq_nil_of_length_eq_zero hq]; rfl
  | succ k ih =>
    intro q hq hb
    match q, hq with
    | b :: t, hq =>
      have htl : t.length = k := by simpa using hq
      have ht : IsBytes t := fun x hx => hb x (List.mem_cons_of_mem _ hx)
      have hbb := hb b (by simp)
      have key : ∀ (t : List Int) (a : Nat), IsBytes t → t.foldl (fun n b => n * 256 + b.toNat) a = a * 256 ^ t.length + fixN t := by
        intro t
        induction t with
        | nil => intro a _; simp [fixN]
        | cons c t ih2 =>
          intro a hc
          have hc' : IsBytes t := fun x hx => hc x (List.mem_cons_of_mem _ hx)
          have e1 := ih2 (a * 256 + c.toNat) hc'
          have e2 := ih2 (0 * 256 + c.toNat) hc'
          have e3 : fixN (c :: t) = List.foldl (fun n b => n * 256 + b.toNat) (0 * 256 + c.toNat) t := rfl
          rw [List.foldl_cons, e1, e3, e2, List.length_cons, Nat.pow_succ, Nat.add_mul, Nat.zero_mul, Nat.zero_add, Nat.mul_assoc, Nat.mul_comm 256, Nat.add_assoc]
      have h1 : fixN (b :: t) = b.toNat * 256 ^ k + fixN t := by
        have := key t (0 * 256 + b.toNat) ht
        rw [htl] at this
        simpa [fixN] using this
      have h2 := fixN_bound t ht
      rw [htl] at h2
      have h3 : (b.toNat * 256 ^ k + fixN t) / 256 ^ k = b.toNat := by
        rw [Nat.mul_comm, Nat.mul_add_div (Nat.pow_pos (by decide)), Nat.div_eq_of_lt h2, Nat.add_zero]
      have h4 : fixedB k (fixN (b :: t)) = fixedB k (fixN t) := by
        rw [h1]
        clear h1 h3 ih hq
        have low : ∀ (j : Nat) (m c : Nat), fixedB j (c * 256 ^ j + m) = fixedB j m := by
          intro j
          induction j with
          | zero => intro m c; rfl
          | succ j ihj =>
            intro m c
            simp only [fixedB]
            have e : c * 256 ^ (j + 1) = c * 256 * 256 ^ j := by rw [Nat.pow_succ, Nat.mul_assoc, Nat.mul_comm 256]
            rw [e, ihj]
            have : (c * 256 * 256 ^ j + m) / 256 ^ j = c * 256 + m / 256 ^ j := by
              rw [Nat.mul_comm, Nat.mul_add_div (Nat.pow_pos (by decide))]
            rw [this]
            have : (c * 256 + m / 256 ^ j) % 256 = m / 256 ^ j % 256 := by omega
            rw [this]
        exact low k (fixN t) b.toNat
      show ((fixN (b :: t) / 256 ^ k % 256 : Nat) : Int) :: fixedB k (fixN (b :: t)) = b :: t
      rw [h4, ih t htl ht, h1, h3]
      have : ((b.toNat % 256 : Nat) : Int) = b := by omega
      rw [this]
theorem num_form (l : List Int) : IsBytes l → ∀ i acc n l', i ≤ 9 → numR i acc l = (n, 0, l', 0) → ∃ m, n = acc + m * 128 ^ i ∧ l = varF (10 - i) m ++ l' ∧ (0 < i → 0 < m) := by
  induction l with
  | nil => intro _ i acc n l' _ h; simp [numR] at h
  | cons b t ih =>
    intro hb i acc n l' hi h
    have ht : IsBytes t := fun x hx => hb x (List.mem_cons_of_mem _ hx)
    have hbb := hb b (by simp)
    rw [numR] at h
    by_cases h1 : (i = 9 ∧ 1 < b) ∨ (0 < i ∧ b = 0)
    · rw [if_pos h1] at h; simp at h
    · rw [if_neg h1] at h
      by_cases h2 : b < 128
      · rw [if_pos h2] at h
        simp only [Prod.mk.injEq] at h
        obtain ⟨e1, _, e3, _⟩ := h
        refine ⟨b.toNat, ?_, ?_, fun h0 => ?_⟩
        · rw [← e1, Nat.mod_eq_of_lt (by omega)]
        · obtain ⟨k, hk⟩ : ∃ k, 10 - i = k + 1 := ⟨9 - i, by omega⟩
          rw [hk, varF, if_pos (by omega), ← e3]
          have : ((b.toNat : Nat) : Int) = b := by omega
          rw [this]
          rfl
        · have : b ≠ 0 := fun e => h1 (Or.inr ⟨h0, e⟩)
          omega
      · rw [if_neg h2] at h
        have hi9 : i ≠ 9 := fun e => h1 (Or.inl ⟨e, by omega⟩)
        obtain ⟨m', g1, g2, g3⟩ := ih ht (i + 1) _ n l' (by omega) h
        have g4 := g3 (by omega)
        refine ⟨b.toNat % 128 + 128 * m', ?_, ?_, fun _ => by omega⟩
        · rw [g1, Nat.pow_succ, Nat.add_mul, Nat.add_assoc]
          congr 2
          rw [Nat.mul_comm 128 m', Nat.mul_assoc, Nat.mul_comm 128]
        · obtain ⟨k, hk⟩ : ∃ k, 10 - i = k + 1 := ⟨9 - i, by omega⟩
          have hk' : 10 - (i + 1) = k := by omega
          rw [hk, varF, if_neg (by omega), g2, hk']
          have e1 : (b.toNat % 128 + 128 * m') / 128 = m' := by omega
          have e2 : (((b.toNat % 128 + 128 * m') % 128 + 128 : Nat) : Int) = b := by omega
          rw [e1, e2]
          rfl
theorem var_form {l l' : List Int} {n : Nat} (hb : IsBytes l) (h : varR l 0 = (n, l', 0)) : l = varB n ++ l' := by
  unfold varR at h
  rw [if_pos rfl] at h
  by_cases h1 : (numR 0 0 l).2.1 = 0
  · rw [if_pos h1] at h
    have e : numR 0 0 l = (n, 0, l', 0) := by
      simp only [Prod.mk.injEq] at h
      obtain ⟨e1, e2, e3⟩ := h
      exact Prod.ext e1 (Prod.ext h1 (Prod.ext e2 e3))
    obtain ⟨m, g1, g2, _⟩ := num_form l hb 0 0 n l' (by omega) e
    have : n = m := by simpa using g1
    rw [this]
    exact g2
  · rw [if_neg h1] at h
    exfalso
    simp only [Prod.mk.injEq] at h
    obtain ⟨_, _, e3⟩ := h
    unfold failE at e3
    split at e3
    · exact h1 e3
    · rename_i q; exact q e3
theorem turned_back (n : Nat) (h : n < 18446744073709551616) : turned (backI n) = n := by
  unfold turned backI
  split <;> split <;> omega
theorem var_e (l : List Int) (e : Int) : (varR l e).2.2 = 0 → e = 0 := by
  intro h
  unfold varR at h
  by_cases he : e = 0
  · exact he
  · rw [if_neg he] at h; exact absurd h he
theorem var_bound {l : List Int} (hb : IsBytes l) (e : Int) : (varR l e).1 < 18446744073709551616 := by
  unfold varR
  split
  · have := numR_bound l hb 0 0 (by omega) (by omega)
    split <;> exact this
  · show 0 < _
    decide
theorem nextR_e (n : Nat) (l : List Int) (e : Int) (h : (nextR n l e).2.2 = 0) : e = 0 ∧ n ≤ l.length ∧ nextR n l e = (l.take n, l.drop n, 0) := by
  unfold nextR at h ⊢
  by_cases he : e = 0
  · rw [if_pos he] at h ⊢
    by_cases hl : l.length < n
    · rw [if_pos hl] at h; exact absurd h (by decide)
    · rw [if_neg hl]; exact ⟨he, by omega, rfl⟩
  · rw [if_neg he] at h; exact absurd h he
theorem failE_ne (x e : Int) (hx : x ≠ 0) : failE x e ≠ 0 := by
  unfold failE
  split
  · exact hx
  · assumption
theorem text_e {most : Int} {l : List Int} {e : Int} (h : (textR most l e).2.2 = 0) : e = 0 ∧ ∃ n l1, varR l 0 = (n, l1, 0) ∧ n ≤ l1.length ∧ textR most l e = (l1.take n, l1.drop n, 0) := by
  unfold textR at h ⊢
  by_cases h1 : most < 0
  · rw [if_pos h1] at h; exact absurd h (failE_ne _ _ (by decide))
  · rw [if_neg h1] at h ⊢
    by_cases h2 : most < (varR l e).1
    · rw [if_pos h2] at h; exact absurd h (failE_ne _ _ (by decide))
    · rw [if_neg h2] at h ⊢
      by_cases h3 : (varR l e).2.1.length < (varR l e).1
      · rw [if_pos h3] at h; exact absurd h (failE_ne _ _ (by decide))
      · rw [if_neg h3] at h ⊢
        obtain ⟨q1, q2, q3⟩ := nextR_e _ _ _ h
        have he := var_e l e q1
        subst he
        exact ⟨rfl, (varR l 0).1, (varR l 0).2.1, Prod.ext rfl (Prod.ext rfl q1), q2, q3⟩
theorem pair_form {a b : Int} (ha : 0 ≤ a ∧ a < 256) (hb : 0 ≤ b ∧ b < 256) : pairI a b % 65536 / 256 = a ∧ pairI a b % 256 = b ∧ -32768 ≤ pairI a b ∧ pairI a b < 32768 := by
  unfold pairI
  split <;> omega
theorem zero8_bytes : IsBytes zero8 := fun x hx => by simp [zero8] at hx; omega
theorem nil_bytes : IsBytes [] := fun x hx => by simp at hx
theorem took_good {t : Th} {l : List Int} {e : Int} (hb : IsBytes l) (ht : Good t) : Good (tookR t l e).1 := by
  have z : (0 : Int) ≤ 0 ∧ (0 : Int) < 18446744073709551616 := by decide
  have zi : (-9223372036854775808 : Int) ≤ 0 ∧ (0 : Int) ≤ 9223372036854775807 := by decide
  have zp : (-32768 : Int) ≤ 0 ∧ (0 : Int) < 32768 := by decide
  rcases kind_cases t.kind with h | h | h | h | h | h | h
  · have e1 : tookR t l e = ((0, 0, (byteR l e).1, 0, 0, zero8, (0, 0), []), (byteR l e).2) := by simp [tookR, h]
    have hr := byteR_range l e hb
    rw [e1]
    exact ⟨⟨hr.1, by show (byteR l e).1 < _; omega⟩, zi, zi, rfl, zero8_bytes, nil_bytes, zp, zp⟩
  · have e1 : tookR t l e = ((0, 1, (fixedR t.w l e).1, 0, t.w, zero8, (0, 0), []), (fixedR t.w l e).2) := by simp [tookR, h]
    rw [e1]
    refine ⟨?_, zi, ht.gw, rfl, zero8_bytes, nil_bytes, zp, zp⟩
    show 0 ≤ (fixedR t.w l e).1 ∧ (fixedR t.w l e).1 < 18446744073709551616
    unfold fixedR
    by_cases hw : t.w < 1 ∨ 8 < t.w
    · rw [if_pos hw]; exact z
    · rw [if_neg hw]
      have h1 := fixN_bound (nextR t.w.toNat l e).1 (nextR_bytes hb)
      have h2 : (nextR t.w.toNat l e).1.length ≤ 8 := by
        unfold nextR
        by_cases he : e = 0
        · rw [if_pos he]; split
          · simp
          · simp; omega
        · rw [if_neg he]; simp
      have h3 : 256 ^ (nextR t.w.toNat l e).1.length ≤ 256 ^ 8 := Nat.pow_le_pow_right (by decide) h2
      exact ⟨Int.natCast_nonneg _, by have : (256 : Nat) ^ 8 = 18446744073709551616 := by decide
                                      omega⟩
  · have e1 : tookR t l e = ((0, 2, ((varR l e).1 : Int), 0, 0, zero8, (0, 0), []), (varR l e).2) := by simp [tookR, h]
    rw [e1]
    exact ⟨⟨Int.natCast_nonneg _, by have := var_bound hb e; show ((varR l e).1 : Int) < _; omega⟩, zi, zi, rfl, zero8_bytes, nil_bytes, zp, zp⟩
  · have e1 : tookR t l e = ((0, 3, 0, backI (varR l e).1, 0, zero8, (0, 0), []), (varR l e).2) := by simp [tookR, h]
    rw [e1]
    refine ⟨z, ?_, zi, rfl, zero8_bytes, nil_bytes, zp, zp⟩
    show -9223372036854775808 ≤ backI (varR l e).1 ∧ backI (varR l e).1 ≤ 9223372036854775807
    have := var_bound hb e
    unfold backI
    split <;> omega
  · have e1 : tookR t l e = ((0, 4, 0, 0, 0, (idR l e).1, (0, 0), []), (idR l e).2) := by simp [tookR, h]
    rw [e1]
    refine ⟨z, zi, zi, ?_, ?_, nil_bytes, zp, zp⟩
    · obtain ⟨i0, i1, i2, i3, i4, i5, i6, i7, hid⟩ := idR_eight l e
      show (idR l e).1.length = 8
      rw [hid]; rfl
    · show IsBytes (idR l e).1
      unfold idR
      by_cases he : e = 0
      · rw [if_pos he]
        by_cases hl : l.length < 8
        · rw [if_pos hl]; exact zero8_bytes
        · rw [if_neg hl]; exact hb.take 8
      · rw [if_neg he]; exact zero8_bytes
  · have e1 : tookR t l e = ((0, 5, 0, 0, 0, zero8, (pointR l e).1, []), (pointR l e).2) := by simp [tookR, h]
    rw [e1]
    have hp : (-32768 ≤ (pointR l e).1.1 ∧ (pointR l e).1.1 < 32768) ∧ (-32768 ≤ (pointR l e).1.2 ∧ (pointR l e).1.2 < 32768) := by
      unfold pointR
      by_cases he : e = 0
      · rw [if_pos he]
        rcases l with _ | ⟨a, _ | ⟨b, _ | ⟨c, _ | ⟨d, q⟩⟩⟩⟩
        · exact ⟨zp, zp⟩
        · exact ⟨zp, zp⟩
        · exact ⟨zp, zp⟩
        · exact ⟨zp, zp⟩
        · have h1 := pair_form (hb a (by simp)) (hb b (by simp))
          have h2 := pair_form (hb c (by simp)) (hb d (by simp))
          exact ⟨h1.2.2, h2.2.2⟩
      · rw [if_neg he]; exact ⟨zp, zp⟩
    exact ⟨z, zi, zi, rfl, zero8_bytes, nil_bytes, hp.1, hp.2⟩
  · have e1 : tookR t l e = ((0, 6, 0, 0, 0, zero8, (0, 0), (textR t.w l e).1), (textR t.w l e).2) := by simp [tookR, h]
    rw [e1]
    exact ⟨z, zi, zi, rfl, zero8_bytes, textR_bytes hb, zp, zp⟩
/-- what is read with no fault is put as it was -/
theorem took_form {t : Th} {l : List Int} (hb : IsBytes l) (ht : Good t) (h : (tookR t l 0).2.2 = 0) : l = (putB (tookR t l 0).1).1 ++ (tookR t l 0).2.1 ∧ (putB (tookR t l 0).1).2 = 0 := by
  rcases kind_cases t.kind with hk | hk | hk | hk | hk | hk | hk
  · have e1 : tookR t l 0 = ((0, 0, (byteR l 0).1, 0, 0, zero8, (0, 0), []), (byteR l 0).2) := by simp [tookR, hk]
    rw [e1] at h ⊢
    cases l with
    | nil => exact absurd h (by decide)
    | cons b q =>
      have hbb := hb b (by simp)
      have e2 : putB (0, 0, b, 0, 0, zero8, (0, 0), []) = ([b % 256], 0) := by simp [putB, show kindOf 0 = 0 by decide]
      show b :: q = (putB (0, 0, b, 0, 0, zero8, (0, 0), [])).1 ++ q ∧ (putB (0, 0, b, 0, 0, zero8, (0, 0), [])).2 = 0
      rw [e2]
      have : b % 256 = b := by omega
      rw [this]
      exact ⟨rfl, rfl⟩
  · have e1 : tookR t l 0 = ((0, 1, (fixedR t.w l 0).1, 0, t.w, zero8, (0, 0), []), (fixedR t.w l 0).2) := by simp [tookR, hk]
    rw [e1] at h ⊢
    by_cases hw : t.w < 1 ∨ 8 < t.w
    · have e2 : fixedR t.w l 0 = (0, [], 1) := by simp [fixedR, hw, failE]
      rw [e2] at h
      have h' : (1 : Int) = 0 := h
      exact absurd h' (by decide)
    · have e2 : fixedR t.w l 0 = ((fixN (nextR t.w.toNat l 0).1 : Int), (nextR t.w.toNat l 0).2.1, (nextR t.w.toNat l 0).2.2) := by simp [fixedR, hw]
      rw [e2] at h ⊢
      obtain ⟨_, q2, q3⟩ := nextR_e _ _ _ h
      rw [q3]
      have hlen : (l.take t.w.toNat).length = t.w.toNat := by simp; omega
      have hbd := fixN_bound (l.take t.w.toNat) (hb.take _)
      rw [hlen] at hbd
      have hwide : wide (fixN (l.take t.w.toNat)) t.w = false := by
        unfold wide
        have p2 : (2 : Nat) ^ (8 * t.w).toNat = 256 ^ t.w.toNat := by
          rw [show (8 * t.w).toNat = 8 * t.w.toNat by omega, Nat.pow_mul]
        rw [decide_eq_false (by omega), decide_eq_false (by omega), p2, Nat.div_eq_of_lt hbd]
        simp
      have e3 : putB (0, 1, (fixN (l.take t.w.toNat) : Int), 0, t.w, zero8, (0, 0), []) = (fixedB t.w.toNat (fixN (l.take t.w.toNat)), 0) := by simp [putB, Th.kind, Th.n, Th.w, show kindOf 1 = 1 by decide, hwide]
      show l = (putB (0, 1, (fixN (l.take t.w.toNat) : Int), 0, t.w, zero8, (0, 0), [])).1 ++ l.drop t.w.toNat ∧ (putB (0, 1, (fixN (l.take t.w.toNat) : Int), 0, t.w, zero8, (0, 0), [])).2 = 0
      rw [e3, fixedB_fixN _ _ hlen (hb.take _)]
      exact ⟨(List.take_append_drop _ _).symm, rfl⟩
  · have e1 : tookR t l 0 = ((0, 2, ((varR l 0).1 : Int), 0, 0, zero8, (0, 0), []), (varR l 0).2) := by simp [tookR, hk]
    rw [e1] at h ⊢
    have e3 : putB (0, 2, ((varR l 0).1 : Int), 0, 0, zero8, (0, 0), []) = (varB (varR l 0).1, 0) := by simp [putB, Th.kind, Th.n, show kindOf 2 = 2 by decide]
    show l = (putB (0, 2, ((varR l 0).1 : Int), 0, 0, zero8, (0, 0), [])).1 ++ (varR l 0).2.1 ∧ (putB (0, 2, ((varR l 0).1 : Int), 0, 0, zero8, (0, 0), [])).2 = 0
    rw [e3]
    exact ⟨var_form hb (Prod.ext rfl (Prod.ext rfl h)), rfl⟩
  · have e1 : tookR t l 0 = ((0, 3, 0, backI (varR l 0).1, 0, zero8, (0, 0), []), (varR l 0).2) := by simp [tookR, hk]
    rw [e1] at h ⊢
    have e3 : putB (0, 3, 0, backI (varR l 0).1, 0, zero8, (0, 0), []) = (varB (varR l 0).1, 0) := by
      have := turned_back (varR l 0).1 (var_bound hb 0)
      simp [putB, show kindOf 3 = 3 by decide, this]
    show l = (putB (0, 3, 0, backI (varR l 0).1, 0, zero8, (0, 0), [])).1 ++ (varR l 0).2.1 ∧ (putB (0, 3, 0, backI (varR l 0).1, 0, zero8, (0, 0), [])).2 = 0
    rw [e3]
    exact ⟨var_form hb (Prod.ext rfl (Prod.ext rfl h)), rfl⟩
  · have e1 : tookR t l 0 = ((0, 4, 0, 0, 0, (idR l 0).1, (0, 0), []), (idR l 0).2) := by simp [tookR, hk]
    rw [e1] at h ⊢
    by_cases hl : l.length < 8
    · have e2 : idR l 0 = (List.replicate 8 0, [], 20) := by simp [idR, hl]
      rw [e2] at h
      exact absurd h (by decide)
    · have e2 : idR l 0 = (l.take 8, l.drop 8, 0) := by simp [idR, hl]
      rw [e2]
      have e3 : putB (0, 4, 0, 0, 0, l.take 8, (0, 0), []) = (l.take 8, 0) := by simp [putB, show kindOf 4 = 4 by decide]
      show l = (putB (0, 4, 0, 0, 0, l.take 8, (0, 0), [])).1 ++ l.drop 8 ∧ (putB (0, 4, 0, 0, 0, l.take 8, (0, 0), [])).2 = 0
      rw [e3]
      exact ⟨(List.take_append_drop _ _).symm, rfl⟩
  · have e1 : tookR t l 0 = ((0, 5, 0, 0, 0, zero8, (pointR l 0).1, []), (pointR l 0).2) := by simp [tookR, hk]
    rw [e1] at h ⊢
    rcases l with _ | ⟨a, _ | ⟨b, _ | ⟨c, _ | ⟨d, q⟩⟩⟩⟩
    · have h' : (20 : Int) = 0 := h
      exact absurd h' (by decide)
    · have h' : (20 : Int) = 0 := h
      exact absurd h' (by decide)
    · have h' : (20 : Int) = 0 := h
      exact absurd h' (by decide)
    · have h' : (20 : Int) = 0 := h
      exact absurd h' (by decide)
    · have h1 := pair_form (hb a (by simp)) (hb b (by simp))
      have h2 := pair_form (hb c (by simp)) (hb d (by simp))
      have e3 : putB (0, 5, 0, 0, 0, zero8, (pairI a b, pairI c d), []) = ([a, b, c, d], 0) := by
        simp only [putB, show kindOf 5 = 5 by decide, pointB, h1.1, h1.2.1, h2.1, h2.2.1]
        rfl
      show a :: b :: c :: d :: q = (putB (0, 5, 0, 0, 0, zero8, (pairI a b, pairI c d), [])).1 ++ q ∧ (putB (0, 5, 0, 0, 0, zero8, (pairI a b, pairI c d), [])).2 = 0
      rw [e3]
      exact ⟨rfl, rfl⟩
  · have e1 : tookR t l 0 = ((0, 6, 0, 0, 0, zero8, (0, 0), (textR t.w l 0).1), (textR t.w l 0).2) := by simp [tookR, hk]
    rw [e1] at h ⊢
    obtain ⟨_, n, l1, g1, g2, g3⟩ := text_e h
    rw [g3]
    have e3 : putB (0, 6, 0, 0, 0, zero8, (0, 0), l1.take n) = (varB (l1.take n).length ++ l1.take n, 0) := by simp [putB, Th.kind, Th.t, show kindOf 6 = 6 by decide]
    show l = (putB (0, 6, 0, 0, 0, zero8, (0, 0), l1.take n)).1 ++ l1.drop n ∧ (putB (0, 6, 0, 0, 0, zero8, (0, 0), l1.take n)).2 = 0
    rw [e3, List.length_take, Nat.min_eq_left g2, List.append_assoc, List.take_append_drop]
    exact ⟨var_form hb g1, rfl⟩
theorem num_code (l : List Int) : ∀ i acc, ((numR i acc l).2.1 = 0 → (numR i acc l).2.2.2 = 0) ∧ ((numR i acc l).2.1 ≠ 0 → (numR i acc l).1 = 0) := by
  induction l with
  | nil => intro i acc; rw [numR]; exact ⟨fun h => absurd h (by decide), fun _ => rfl⟩
  | cons b t ih =>
    intro i acc
    rw [numR]
    split
    · exact ⟨fun _ => rfl, fun _ => rfl⟩
    · split
      · exact ⟨fun _ => rfl, fun h => absurd rfl h⟩
      · exact ih _ _
theorem var_fault {l : List Int} {e : Int} (h : (varR l e).2.2 ≠ 0) : varR l e = (0, [], (varR l e).2.2) := by
  unfold varR at h ⊢
  by_cases he : e = 0
  · rw [if_pos he] at h ⊢
    by_cases hc : (numR 0 0 l).2.1 = 0
    · rw [if_pos hc] at h; exact absurd ((num_code l 0 0).1 hc) h
    · rw [if_neg hc, (num_code l 0 0).2 hc]
  · rw [if_neg he]
theorem nextR_fault {n : Nat} {l : List Int} {e : Int} (h : (nextR n l e).2.2 ≠ 0) : nextR n l e = ([], [], (nextR n l e).2.2) := by
  unfold nextR at h ⊢
  by_cases he : e = 0
  · rw [if_pos he] at h ⊢
    by_cases hl : l.length < n
    · rw [if_pos hl]
    · rw [if_neg hl] at h; exact absurd rfl h
  · rw [if_neg he]
theorem text_fault {most : Int} {l : List Int} {e : Int} (h : (textR most l e).2.2 ≠ 0) : textR most l e = ([], [], (textR most l e).2.2) := by
  unfold textR at h ⊢
  by_cases h1 : most < 0
  · rw [if_pos h1]
  · rw [if_neg h1] at h ⊢
    by_cases h2 : most < (varR l e).1
    · rw [if_pos h2]
    · rw [if_neg h2] at h ⊢
      by_cases h3 : (varR l e).2.1.length < (varR l e).1
      · rw [if_pos h3]
      · rw [if_neg h3] at h ⊢
        exact nextR_fault h
/-- a read that ends with a fault answers nothing, and leaves nothing -/
theorem took_fault {t : Th} {l : List Int} {e : Int} (h : (tookR t l e).2.2 ≠ 0) : tookR t l e = (dead t, [], (tookR t l e).2.2) := by
  unfold dead
  rcases kind_cases t.kind with hk | hk | hk | hk | hk | hk | hk
  · have e1 : tookR t l e = ((0, 0, (byteR l e).1, 0, 0, zero8, (0, 0), []), (byteR l e).2) := by simp [tookR, hk]
    rw [e1] at h ⊢
    have e2 : byteR l e = (0, [], (byteR l e).2.2) := by
      by_cases he : e = 0
      · subst he
        cases l with
        | nil => rfl
        | cons b q => exact absurd rfl h
      · simp [byteR, he]
    rw [e2]
    simp [hk]
  · have e1 : tookR t l e = ((0, 1, (fixedR t.w l e).1, 0, t.w, zero8, (0, 0), []), (fixedR t.w l e).2) := by simp [tookR, hk]
    rw [e1] at h ⊢
    have e2 : fixedR t.w l e = (0, [], (fixedR t.w l e).2.2) := by
      unfold fixedR at h ⊢
      by_cases hw : t.w < 1 ∨ 8 < t.w
      · rw [if_pos hw]
      · rw [if_neg hw] at h ⊢
        have h' : (nextR t.w.toNat l e).2.2 ≠ 0 := h
        have e3 := nextR_fault h'
        rw [e3]
        rfl
    rw [e2]
    simp [hk]
  · have e1 : tookR t l e = ((0, 2, ((varR l e).1 : Int), 0, 0, zero8, (0, 0), []), (varR l e).2) := by simp [tookR, hk]
    rw [e1] at h ⊢
    have h' : (varR l e).2.2 ≠ 0 := h
    rw [var_fault h']
    simp [hk]
  · have e1 : tookR t l e = ((0, 3, 0, backI (varR l e).1, 0, zero8, (0, 0), []), (varR l e).2) := by simp [tookR, hk]
    rw [e1] at h ⊢
    have h' : (varR l e).2.2 ≠ 0 := h
    rw [var_fault h']
    simp [hk, backI]
  · have e1 : tookR t l e = ((0, 4, 0, 0, 0, (idR l e).1, (0, 0), []), (idR l e).2) := by simp [tookR, hk]
    rw [e1] at h ⊢
    have e2 : idR l e = (zero8, [], (idR l e).2.2) := by
      unfold idR at h ⊢
      by_cases he : e = 0
      · rw [if_pos he] at h ⊢
        by_cases hl : l.length < 8
        · rw [if_pos hl]; rfl
        · rw [if_neg hl] at h; exact absurd rfl h
      · rw [if_neg he]; rfl
    rw [e2]
    simp [hk]
  · have e1 : tookR t l e = ((0, 5, 0, 0, 0, zero8, (pointR l e).1, []), (pointR l e).2) := by simp [tookR, hk]
    rw [e1] at h ⊢
    have e2 : pointR l e = ((0, 0), [], (pointR l e).2.2) := by
      unfold pointR at h ⊢
      by_cases he : e = 0
      · rw [if_pos he] at h ⊢
        rcases l with _ | ⟨a, _ | ⟨b, _ | ⟨c, _ | ⟨d, q⟩⟩⟩⟩
        · rfl
        · rfl
        · rfl
        · rfl
        · exact absurd rfl h
      · rw [if_neg he]
    rw [e2]
    simp [hk]
  · have e1 : tookR t l e = ((0, 6, 0, 0, 0, zero8, (0, 0), (textR t.w l e).1), (textR t.w l e).2) := by simp [tookR, hk]
    rw [e1] at h ⊢
    have h' : (textR t.w l e).2.2 ≠ 0 := h
    rw [text_fault h']
    simp [hk]
theorem dead_short (t : Th) : (putB (dead t)).1.length ≤ 8 := by
  rcases kind_cases t.kind with h | h | h | h | h | h | h
  · rw [show dead t = (0, 0, 0, 0, 0, zero8, (0, 0), []) by simp [dead, h]]; decide
  · have e : dead t = (0, 1, 0, 0, t.w, zero8, (0, 0), []) := by simp [dead, h]
    have e2 : putB (0, 1, 0, 0, t.w, zero8, (0, 0), []) = if wide 0 t.w = true then ([], 1) else (fixedB t.w.toNat 0, 0) := by simp [putB, Th.kind, Th.n, Th.w, show kindOf 1 = 1 by decide]
    rw [e, e2]
    by_cases hw : wide 0 t.w = true
    · rw [if_pos hw]; decide
    · rw [if_neg hw]
      have h8 : t.w ≤ 8 := by
        have hq : wide 0 t.w = false := by simpa using hw
        unfold wide at hq
        simp at hq
        omega
      show (fixedB t.w.toNat 0).length ≤ 8
      rw [fixedB_len]
      omega
  · rw [show dead t = (0, 2, 0, 0, 0, zero8, (0, 0), []) by simp [dead, h]]; decide
  · rw [show dead t = (0, 3, 0, 0, 0, zero8, (0, 0), []) by simp [dead, h]]; decide
  · rw [show dead t = (0, 4, 0, 0, 0, zero8, (0, 0), []) by simp [dead, h]]; decide
  · rw [show dead t = (0, 5, 0, 0, 0, zero8, (0, 0), []) by simp [dead, h]]; decide
  · rw [show dead t = (0, 6, 0, 0, 0, zero8, (0, 0), []) by simp [dead, h]]; decide
/-- one round: what is written, and what is left -/
theorem took_round {t : Th} {l wl b : List Int} {e : Int} (hb : IsBytes l) (ht : Good t) (he : e ≠ 0 → l = []) (hw : e = 0 → b = wl ++ l) :
    ((tookR t l e).2.2 = 0 → b = (wl ++ (putB (tookR t l e).1).1) ++ (tookR t l e).2.1 ∧ (putB (tookR t l e).1).2 = 0) ∧ (wl ++ (putB (tookR t l e).1).1).length ≤ max b.length wl.length + 8 := by
  by_cases h : (tookR t l e).2.2 = 0
  · have h0 : e = 0 := by
      by_cases hc : e = 0
      · exact hc
      · rw [he hc, tookR_dead t e hc] at h
        exact absurd h hc
    subst h0
    obtain ⟨f1, f2⟩ := took_form hb ht h
    have hbb : b = (wl ++ (putB (tookR t l 0).1).1) ++ (tookR t l 0).2.1 := by rw [hw rfl, List.append_assoc, ← f1]
    refine ⟨fun _ => ⟨hbb, f2⟩, ?_⟩
    have := congrArg List.length hbb
    rw [List.length_append] at this
    omega
  · refine ⟨fun q => absurd q h, ?_⟩
    rw [took_fault h, List.length_append]
    have := dead_short t
    show wl.length + (putB (dead t)).1.length ≤ _
    omega
end Go.Proofs.Ytjijmikpoenbcaa.Codec
