/- CertTwo, the plain statement: of any graph and any two certificates the law's own function tells true. No condition beyond the ranges of the numbers and the reach. Written in this session. -/
import Derived.Test.YtmdidgdcdlodlaaQ19
import Derived.Test.YtmdidgdcdlodlaaPlain
import Derived.OpenShut
namespace Go.Proofs.Ytmdidgdcdlodlaa.Q
open Go.RowKit Go.Proofs.YtmdidgdcdlodlaaW.PrintWords Go.Proofs.YtmdidgdcdlodlaaW.PrintLast
def cabstandlaw18_CertTwo.PureS : Prop := ∀ (a0_0 : Int) (a0_1 : Int) (l0_2 : List (S69)) (l1_0 : List (S50)) (l1_1 : List Int) (l1_2 : List Int) (l2_0 : List (S50)) (l2_1 : List Int) (l2_2 : List Int), ((Lit.int .i64 a0_0).wf = true ∧ ((Lit.int .i64 a0_1).wf = true ∧ (l0_2.length * 24 ≤ reachBytes ∧ ∀ y4_ ∈ l0_2, ((Lit.int .i64 y4_.f0).wf = true ∧ ((Lit.int .i64 y4_.f1).wf = true ∧ (Lit.int .i64 y4_.f2).wf = true))))) → ((l1_0.length * 16 ≤ reachBytes ∧ ∀ y4_ ∈ l1_0, ((Lit.int .i64 y4_.f0).wf = true ∧ (Lit.int .i64 y4_.f1).wf = true)) ∧ ((l1_1.length * 8 ≤ reachBytes ∧ ∀ y4_ ∈ l1_1, (Lit.int .i64 y4_).wf = true) ∧ (l1_2.length * 8 ≤ reachBytes ∧ ∀ y4_ ∈ l1_2, (Lit.int .i64 y4_).wf = true))) → ((l2_0.length * 16 ≤ reachBytes ∧ ∀ y4_ ∈ l2_0, ((Lit.int .i64 y4_.f0).wf = true ∧ (Lit.int .i64 y4_.f1).wf = true)) ∧ ((l2_1.length * 8 ≤ reachBytes ∧ ∀ y4_ ∈ l2_1, (Lit.int .i64 y4_).wf = true) ∧ (l2_2.length * 8 ≤ reachBytes ∧ ∀ y4_ ∈ l2_2, (Lit.int .i64 y4_).wf = true))) → ∃ k, cabstandlaw18_CertTwo.f k a0_0 a0_1 l0_2 l1_0 l1_1 l1_2 l2_0 l2_1 l2_2 = some true
theorem pureCertTwo : cabstandlaw18_CertTwo.PureS := by
  intro a b es ps ys zs qs us vs hg hc hd
  have len : ∀ n B : Nat, 8 ≤ B → n * B ≤ reachBytes → n ≤ 1152921504606846976 := by
    intro n B h8 h
    have : n * 8 ≤ n * B := Nat.mul_le_mul_left _ h8
    simp only [reachBytes] at h
    omega
  have f1 : Fits es ps ys zs := ⟨len _ _ (by omega) hg.2.2.1, len _ _ (by omega) hc.1.1, len _ _ (by omega) hc.2.1.1, len _ _ (by omega) hc.2.2.1, fun p hp => (bounds_i64 (hc.2.1.2 p hp)).2⟩
  have f2 : Fits es qs us vs := ⟨f1.1, len _ _ (by omega) hd.1.1, len _ _ (by omega) hd.2.1.1, len _ _ (by omega) hd.2.2.1, fun p hp => (bounds_i64 (hd.2.1.2 p hp)).2⟩
  have f3 : Fits es ps us vs := ⟨f1.1, f1.2.1, f2.2.2⟩
  have f4 : Fits es qs ys zs := ⟨f1.1, f2.2.1, f1.2.2⟩
  refine ⟨64 * (es.length + 2) + 2, ?_⟩
  simp only [cabstandlaw18_CertTwo.f, check_is f1, check_is f2, Option.bind_some]
  by_cases h1 : checkC a b es ps ys zs = 0
  · rw [if_pos h1]
    by_cases h2 : checkC a b es qs us vs = 0
    · have hb : (checkC a b es qs us vs != 0) = false := by simp [h2]
      rw [hb]
      obtain ⟨g1, p1, l1, d1, e1⟩ := check_zero.1 h1
      obtain ⟨g2, p2, l2, d2, e2⟩ := check_zero.1 h2
      have hgood := good_of g1
      have w1 := taken_worth h1
      have w2 := taken_worth h2
      have k1 := weak hgood l1 (dualC_zero.1 d1) (pairsC_zero.1 p2)
      have k2 := weak hgood l2 (dualC_zero.1 d2) (pairsC_zero.1 p1)
      have hw : worthP es ps = worthP es qs := by omega
      have h3 : checkC a b es ps us vs = 0 := check_zero.2 ⟨g1, p1, l2, d2, gapC_zero.2 (by rw [hw]; exact gapC_zero.1 e2)⟩
      have h4 : checkC a b es qs ys zs = 0 := check_zero.2 ⟨g1, p2, l1, d1, gapC_zero.2 (by rw [← hw]; exact gapC_zero.1 e1)⟩
      simp only [cabstandlaw18_CertTwo.j0]
      rw [if_neg (by simp), check_is f3, check_is f4]
      simp only [Option.bind_some]
      rw [if_pos h3, if_pos h4, worth_is hgood f1.1 a b ps (pairs_64 h1) _ (by omega), worth_is hgood f1.1 a b qs (pairs_64 h2) _ (by omega)]
      simp only [Option.bind_some]
      rw [if_pos hw, alive_is]
      rfl
    · have hb : (checkC a b es qs us vs != 0) = true := by simp [h2]
      rw [hb]
      simp only [cabstandlaw18_CertTwo.j0, if_true, alive_is, Option.bind_some]
  · rw [if_neg h1]
    simp only [cabstandlaw18_CertTwo.j0, if_true, alive_is, Option.bind_some]
end Go.Proofs.Ytmdidgdcdlodlaa.Q
