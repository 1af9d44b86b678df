/- CertWeak, the plain statement: of any graph, prices and pairs the law's own function tells true. No condition beyond the ranges of the numbers and the reach. Written in this session. -/
import Derived.Test.YtmdidgdcdlodlaaQ15
import Derived.Test.YtmdidgdcdlodlaaPlain
import Derived.OpenShut
namespace Go.Proofs.Ytmdidgdcdlodlaa.Q
open Go.RowKit Go.Proofs.YtmdidgdcdlodlaaW.PrintWords Go.Proofs.YtmdidgdcdlodlaaW.PrintLast
def cabstandlaw18_CertWeak.PureS : Prop := ∀ (a0_0 : Int) (a0_1 : Int) (l0_2 : List (S69)) (l1_0 : List (S50)) (l1_1 : List Int) (l1_2 : List Int) (l2 : List (S50)), ((Lit.int .i64 a0_0).wf = true ∧ ((Lit.int .i64 a0_1).wf = true ∧ (l0_2.length * 24 ≤ reachBytes ∧ ∀ y4_ ∈ l0_2, ((Lit.int .i64 y4_.f0).wf = true ∧ ((Lit.int .i64 y4_.f1).wf = true ∧ (Lit.int .i64 y4_.f2).wf = true))))) → ((l1_0.length * 16 ≤ reachBytes ∧ ∀ y4_ ∈ l1_0, ((Lit.int .i64 y4_.f0).wf = true ∧ (Lit.int .i64 y4_.f1).wf = true)) ∧ ((l1_1.length * 8 ≤ reachBytes ∧ ∀ y4_ ∈ l1_1, (Lit.int .i64 y4_).wf = true) ∧ (l1_2.length * 8 ≤ reachBytes ∧ ∀ y4_ ∈ l1_2, (Lit.int .i64 y4_).wf = true))) → (l2.length * 16 ≤ reachBytes ∧ ∀ y2_ ∈ l2, ((Lit.int .i64 y2_.f0).wf = true ∧ (Lit.int .i64 y2_.f1).wf = true)) → ∃ k, cabstandlaw18_CertWeak.f k a0_0 a0_1 l0_2 l1_0 l1_1 l1_2 l2 = some true
theorem pureCertWeak : cabstandlaw18_CertWeak.PureS := by
  intro a b es ps ys zs l hg hc hl
  have hfit1 : Fits es [] ys zs := by
    refine ⟨by have := hg.2.2.1; simp only [reachBytes] at this; omega, by simp, by have := hc.2.1.1; simp only [reachBytes] at this; omega, by have := hc.2.2.1; simp only [reachBytes] at this; omega, fun p hp => ?_⟩
    exact (bounds_i64 (hc.2.1.2 p hp)).2
  have hfit2 : Fits es l [] [] := ⟨hfit1.1, by have := hl.1; simp only [reachBytes] at this; omega, by simp, by simp, by simp⟩
  refine ⟨64 * (es.length + 2) + 2, ?_⟩
  have alive1 : ∀ (n : Int), cabstandlaw18_CertWeak.j0 (64 * (es.length + 2) + 2) l n true a b es = some true := by
    intro n
    simp only [cabstandlaw18_CertWeak.j0, if_true, alive_is, Option.bind_some]
  simp only [cabstandlaw18_CertWeak.f, cert_Bound.f, cert_Pairs.f, if_pos hfit1, if_pos hfit2, Option.bind_some]
  by_cases h0 : (boundC a b es ys zs).2 = 0
  · rw [if_pos h0]
    by_cases h1 : firstOf [weighC a b es, pairsC es l] = 0
    · have hb : (firstOf [weighC a b es, pairsC es l] != 0) = false := by simp [h1]
      rw [hb]
      -- the bound stands, the pairs are a matching
      have hfirst : firstOf [weighC a b es, lengthsC a b ys zs, dualC es ys zs] = 0 := by
        apply Classical.byContradiction
        intro hne
        unfold boundC at h0
        rw [if_neg hne] at h0
        exact hne h0
      obtain ⟨z1, z2, z3⟩ := firstOf3 hfirst
      have hgood := good_of z1
      have hp : pairsB es (-1) [] l = true := by
        have : pairsC es l = 0 := by
          simp only [firstOf, z1, if_true] at h1
          by_cases h : pairsC es l = 0
          · exact h
          · simp [h] at h1
        unfold pairsC at this
        split at this
        · assumption
        · cases this
      have hh : holdB es ys zs = true := by unfold dualC at z3; split at z3; assumption; cases z3
      obtain ⟨n, t, hnt⟩ : ∃ n t, clsum ys zs = (n, t) := ⟨_, _, rfl⟩
      unfold boundC at h0 ⊢
      rw [if_pos hfirst, hnt] at h0 ⊢
      cases t with
      | false => simp at h0
      | true =>
        simp only [if_true]
        have hs := clsum_true hnt
        obtain ⟨p1, p2, p3⟩ := holdB_is hh
        have hpos : ∀ p ∈ ys ++ zs, 0 ≤ p := fun p hp => by
          rcases List.mem_append.1 hp with h | h
          · exact p1 p h
          · exact p2 p h
        have hn := sumL_is _ _ _ hs
        obtain ⟨n0, n1⟩ := sumL_le _ _ _ hpos (by omega) (by omega) hs
        rw [List.sum_append] at hn
        have hw := weak hgood z2 hh hp
        have hfew := pairs_few hgood l (-1) [] (by omega) (by omega) hp
        simp only [cabstandlaw18_CertWeak.j0]
        rw [if_neg (by simp), worth_is hgood hfit1.1 a b l (by omega) _ (by omega)]
        simp only [Option.bind_some]
        rw [if_pos (by omega), if_pos (by omega), if_pos n1, alive_is]
        rfl
    · have hb : (firstOf [weighC a b es, pairsC es l] != 0) = true := by simp [h1]
      rw [hb]
      exact alive1 _
  · rw [if_neg h0]
    exact alive1 _
end Go.Proofs.Ytmdidgdcdlodlaa.Q
