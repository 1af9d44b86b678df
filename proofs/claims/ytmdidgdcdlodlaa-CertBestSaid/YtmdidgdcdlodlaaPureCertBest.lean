/- CertBest, the plain statement: of any graph, certificate and pairs the law's own function tells true. No condition beyond the ranges of the numbers and the reach. Written in this session. -/
import Derived.Test.YtmdidgdcdlodlaaQ16
import Derived.Test.YtmdidgdcdlodlaaPlain
import Derived.OpenShut
namespace Go.Proofs.Ytmdidgdcdlodlaa.Q
open Go.RowKit Go.Proofs.YtmdidgdcdlodlaaW.PrintWords Go.Proofs.YtmdidgdcdlodlaaW.PrintLast
def cabstandlaw18_CertBest.PureS : Prop := ∀ (a0_0 : Int) (a0_1 : Int) (l0_2 : List (S69)) (l1_0 : List (S50)) (l1_1 : List Int) (l1_2 : List Int) (l2 : List (S50)), ((Lit.int .i64 a0_0).wf = true ∧ ((Lit.int .i64 a0_1).wf = true ∧ (l0_2.length * 24 ≤ reachBytes ∧ ∀ y4_ ∈ l0_2, ((Lit.int .i64 y4_.f0).wf = true ∧ ((Lit.int .i64 y4_.f1).wf = true ∧ (Lit.int .i64 y4_.f2).wf = true))))) → ((l1_0.length * 16 ≤ reachBytes ∧ ∀ y4_ ∈ l1_0, ((Lit.int .i64 y4_.f0).wf = true ∧ (Lit.int .i64 y4_.f1).wf = true)) ∧ ((l1_1.length * 8 ≤ reachBytes ∧ ∀ y4_ ∈ l1_1, (Lit.int .i64 y4_).wf = true) ∧ (l1_2.length * 8 ≤ reachBytes ∧ ∀ y4_ ∈ l1_2, (Lit.int .i64 y4_).wf = true))) → (l2.length * 16 ≤ reachBytes ∧ ∀ y2_ ∈ l2, ((Lit.int .i64 y2_.f0).wf = true ∧ (Lit.int .i64 y2_.f1).wf = true)) → ∃ k, cabstandlaw18_CertBest.f k a0_0 a0_1 l0_2 l1_0 l1_1 l1_2 l2 = some true
theorem best_l2 (zs : List Int) (hn : zs.length ≤ 1152921504606846976) (hz : ∀ p ∈ zs, p = 0) (d : Nat) : ∀ (k : Nat) (i : Int), 0 ≤ i → i + d = zs.length → d < k → cabstandlaw18_CertBest.l2 k zs i = some true := by
  induction d with
  | zero =>
    intro k i h0 h1 hk
    obtain ⟨k, rfl⟩ : ∃ m, k = m + 1 := ⟨k - 1, by omega⟩
    simp only [cabstandlaw18_CertBest.l2]
    rw [if_neg (by omega), alive_is]
    rfl
  | succ d ih =>
    intro k i h0 h1 hk
    obtain ⟨k, rfl⟩ : ∃ m, k = m + 1 := ⟨k - 1, by omega⟩
    simp only [cabstandlaw18_CertBest.l2]
    have e : wrap64 (i + 1) = i + 1 := by unfold wrap64; omega
    rw [if_pos (by omega), if_pos h0, if_pos (hz _ (rd_mem zs i h0 (by omega))), e]
    exact ih k (i + 1) (by omega) (by omega) (by omega)
theorem best_l1 (ys zs : List Int) (hm : ys.length ≤ 1152921504606846976) (hn : zs.length ≤ 1152921504606846976) (hy : ∀ p ∈ ys, p = 0) (hz : ∀ p ∈ zs, p = 0) (d : Nat) : ∀ (k : Nat) (i : Int), 0 ≤ i → i + d = ys.length → d + zs.length + 1 < k → cabstandlaw18_CertBest.l1 k ys zs i = some true := by
  induction d with
  | zero =>
    intro k i h0 h1 hk
    obtain ⟨k, rfl⟩ : ∃ m, k = m + 1 := ⟨k - 1, by omega⟩
    simp only [cabstandlaw18_CertBest.l1]
    rw [if_neg (by omega)]
    exact best_l2 zs hn hz zs.length k 0 (by omega) (by omega) (by omega)
  | succ d ih =>
    intro k i h0 h1 hk
    obtain ⟨k, rfl⟩ : ∃ m, k = m + 1 := ⟨k - 1, by omega⟩
    simp only [cabstandlaw18_CertBest.l1]
    have e : wrap64 (i + 1) = i + 1 := by unfold wrap64; omega
    rw [if_pos (by omega), if_pos h0, if_pos (hy _ (rd_mem ys i h0 (by omega))), e]
    exact ih k (i + 1) (by omega) (by omega) (by omega)
theorem best_l0 {R C : Int} {es : List S69} (hg : Good R C es) (hn : es.length ≤ 1152921504606846976) (a b : Int) (ps : List S50) (hps : ps.length ≤ 64) (ys zs : List Int) (d : Nat) : ∀ (k : Nat) (i : Int) (Y Z : List Int), 0 ≤ i → i + d = ps.length → Left es Y Z (ps.drop i.toNat) → Y.length ≤ 1152921504606846976 → Z.length ≤ 1152921504606846976 →
    64 * (es.length + 2) + 2 * d + Y.length + Z.length + 10 < k → cabstandlaw18_CertBest.l0 k Y Z i a b es ps ys zs = some true := by
  induction d with
  | zero =>
    intro k i Y Z h0 h1 hl hY hZ hk
    obtain ⟨k, rfl⟩ : ∃ m, k = m + 1 := ⟨k - 1, by omega⟩
    simp only [cabstandlaw18_CertBest.l0]
    rw [if_neg (by omega)]
    have ht := hl.tot
    rw [List.drop_eq_nil_of_le (by omega)] at ht
    simp only [worthP] at ht
    have y0 := sum_nonneg Y hl.y0
    have z0 := sum_nonneg Z hl.z0
    exact best_l1 Y Z hY hZ (all_zero Y hl.y0 (by omega)) (all_zero Z hl.z0 (by omega)) Y.length k 0 (by omega) (by omega) (by omega)
  | succ d ih =>
    intro k i Y Z h0 h1 hl hY hZ hk
    obtain ⟨k, rfl⟩ : ∃ m, k = m + 2 := ⟨k - 2, by omega⟩
    have hi : i < (ps.length : Int) := by omega
    have hd := drop_T50 ps i h0 hi
    rw [hd] at hl
    obtain ⟨p, hp⟩ : ∃ p, p = rd_T50 ps i := ⟨_, rfl⟩
    rw [← hp] at hl
    obtain ⟨e1, hl'⟩ := hl.step
    obtain ⟨i0, i1, i2, i3⟩ := hl.inn p (by simp)
    have hw := wt_bound hg p.f0 p.f1
    have q1 := rd_nonneg hl.y0 p.f0
    have q2 := rd_nonneg hl.z0 p.f1
    have e : wrap64 (i + 1) = i + 1 := by unfold wrap64; omega
    have e2 : wrap64 (rd Y p.f0 + rd Z p.f1) = wt es p.f0 p.f1 := by unfold wrap64; omega
    have hwo : cabstandlaw18_worth.f (k + 1) a b es [p] = some (wt es p.f0 p.f1) := by
      rw [worth_is hg hn a b [p] (by simp) _ (by omega)]
      simp [worthP]
    simp only [cabstandlaw18_CertBest.l0]
    rw [← hp, if_pos hi, if_pos h0, if_pos i0, if_pos i1, if_pos i2, if_pos i3]
    have hpe : (⟨p.f0, p.f1⟩ : S50) = p := rfl
    rw [hpe, hwo]
    simp only [Option.bind_some]
    rw [if_pos e2, if_neg (by omega), decide_eq_false (by omega)]
    simp only [cabstandlaw18_CertBest.j3]
    rw [if_neg (by simp), if_pos i0, if_pos i1, if_pos i2, if_pos i3, e]
    exact ih k (i + 1) _ _ (by omega) (by omega) hl' (by rw [List.length_set]; exact hY) (by rw [List.length_set]; exact hZ) (by rw [List.length_set, List.length_set]; omega)
theorem pureCertBest : cabstandlaw18_CertBest.PureS := by
  intro a b es ps ys zs l hg hc hl
  have len : ∀ n B : Nat, 8 ≤ B → n * B ≤ reachBytes → n ≤ 1152921504606846976 := by
    intro n B h8 h
    have : n * 8 ≤ n * B := Nat.mul_le_mul_left _ h8
    simp only [reachBytes] at h
    omega
  have f1 : Fits es ps ys zs := ⟨len _ _ (by omega) hg.2.2.1, len _ _ (by omega) hc.1.1, len _ _ (by omega) hc.2.1.1, len _ _ (by omega) hc.2.2.1, fun p hp => (bounds_i64 (hc.2.1.2 p hp)).2⟩
  have f2 : Fits es ps [] [] := ⟨f1.1, f1.2.1, by simp, by simp, by simp⟩
  have f3 : Fits es l [] [] := ⟨f1.1, len _ _ (by omega) hl.1, by simp, by simp, by simp⟩
  have f4 : Fits es [] ys zs := ⟨f1.1, by simp, f1.2.2⟩
  refine ⟨64 * (es.length + 2) + 2 * 64 + ys.length + zs.length + 20, ?_⟩
  generalize hK : 64 * (es.length + 2) + 2 * 64 + ys.length + zs.length + 20 = K
  simp only [cabstandlaw18_CertBest.f, check_is f1, Option.bind_some]
  by_cases h1 : checkC a b es ps ys zs = 0
  · rw [if_pos h1]
    obtain ⟨g1, p1, l1, d1, e1⟩ := check_zero.1 h1
    have hgood := good_of g1
    have h64 := pairs_64 h1
    have hw := worth_is hgood f1.1 a b ps h64
    have hpairs : cert_Pairs.f a b es ps = some 0 := by
      unfold cert_Pairs.f
      rw [if_pos f2]
      simp [firstOf, g1, p1]
    rw [hpairs]
    simp only [Option.bind_some, if_true]
    have hsum : clsum ys zs = (worthP es ps, true) := gapC_zero.1 e1
    have tw := taken_worth h1
    have rest : cabstandlaw18_CertBest.j0 K false a b es ps ys zs = some true := by
      obtain ⟨k, rfl⟩ : ∃ m, K = m + 2 := ⟨K - 2, by omega⟩
      simp only [cabstandlaw18_CertBest.j0]
      have hb : cert_Bound.f a b es ys zs = some (worthP es ps, 0) := by
        unfold cert_Bound.f boundC
        rw [if_pos f4, hsum]
        simp [firstOf, g1, l1, d1]
      rw [if_neg (by simp), hb]
      simp only [Option.bind_some, if_true]
      rw [hw _ (by omega)]
      simp only [Option.bind_some, bne_self_eq_false, cabstandlaw18_CertBest.j1]
      have y1 := hc.2.1.1
      have z1 := hc.2.2.1
      simp only [reachBytes] at y1 z1
      rw [if_neg (by simp), if_pos (by simp; omega), if_pos (by simp; omega)]
      simp only [List.nil_append]
      exact best_l0 hgood f1.1 a b ps h64 ys zs ps.length k 0 ys zs (by omega) (by omega) (by simpa using left_start h1) f1.2.2.1 f1.2.2.2.1 (by omega)
    unfold cert_Pairs.f
    rw [if_pos f3]
    simp only [Option.bind_some]
    by_cases h2 : firstOf [weighC a b es, pairsC es l] = 0
    · rw [if_pos h2]
      have hp : pairsC es l = 0 := by
        simp only [firstOf, g1, if_true] at h2
        by_cases h : pairsC es l = 0
        · exact h
        · simp [h] at h2
      have hfew := pairs_few hgood l (-1) [] (by omega) (by omega) (pairsC_zero.1 hp)
      have hwk := weak hgood l1 (dualC_zero.1 d1) (pairsC_zero.1 hp)
      rw [worth_is hgood f1.1 a b l (by omega) _ (by omega), hw _ (by omega)]
      simp only [Option.bind_some]
      rw [decide_eq_false (by omega)]
      exact rest
    · rw [if_neg h2]
      exact rest
  · rw [if_neg h1, alive_is]
    rfl
end Go.Proofs.Ytmdidgdcdlodlaa.Q
