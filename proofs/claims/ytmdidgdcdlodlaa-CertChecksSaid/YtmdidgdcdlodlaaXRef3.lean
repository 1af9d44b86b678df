/- What the document's own check of certificates answers, in plain lists. Conditions: those that stand in each theorem. Written in this session. -/
import Derived.Test.YtmdidgdcdlodlaaXRef2
import Derived.Test.YtmdidgdcdlodlaaQ36
namespace Go.Proofs.Ytmdidgdcdlodlaa.Q
open Go.RowKit Go.Proofs.YtmdidgdcdlodlaaW.PrintWords Go.Proofs.YtmdidgdcdlodlaaW.PrintLast
set_option linter.unusedVariables false
theorem ref_worth {R C : Int} {es : List S69} (hg : Good R C es) (hn : es.length ≤ 1152921504606846976) (ps : List S50) (hp : ps.length ≤ 64) : ∀ m j k (acc : Int), j + m = ps.length → 0 ≤ acc → acc ≤ j * 1099513724929 → m + es.length + 2 ≤ k →
    cabstandref18_Worth.l0 k ps acc (j : Int) R C es = some (acc + worthP es (ps.drop j)) := by
  intro m
  induction m with
  | zero =>
    intro j k acc hj h0 h1 hk
    obtain ⟨k', rfl⟩ : ∃ k', k = k' + 1 := ⟨k - 1, by omega⟩
    rw [cabstandref18_Worth.l0, if_neg (by omega), List.drop_eq_nil_of_le (by omega)]
    simp [worthP]
  | succ m ih =>
    intro j k acc hj h0 h1 hk
    obtain ⟨k', rfl⟩ : ∃ k', k = k' + 1 := ⟨k - 1, by omega⟩
    have hjl : j < ps.length := by omega
    have hb := wt_bound hg (rd_T50 ps (j : Int)).f0 (rd_T50 ps (j : Int)).f1
    have e2 : wrap64 (acc + wt es (rd_T50 ps (j : Int)).f0 (rd_T50 ps (j : Int)).f1) = acc + wt es (rd_T50 ps (j : Int)).f0 (rd_T50 ps (j : Int)).f1 := by unfold wrap64; omega
    rw [dropP ps j hjl, cabstandref18_Worth.l0, if_pos (by omega), if_pos (by omega), ref_weight_f R C es hn _ _ k' (by omega), Option.bind_some, e2, w64 j (by omega), ih (j + 1) k' _ (by omega) (by omega) (by omega) (by omega)]
    show some (acc + _ + _) = some (acc + (wt es (rd_T50 ps (j : Int)).f0 (rd_T50 ps (j : Int)).f1 + worthP es (ps.drop (j + 1))))
    rw [Int.add_assoc]
theorem ref_cert (R C : Int) (es : List S69) (ps : List S50) (ys zs : List Int) (hn : es.length ≤ 1048576) (hp : ps.length ≤ 1048576) (hyl : ys.length ≤ 1048576) (hz : zs.length ≤ 1048576) (hy : ∀ p ∈ ys, p ≤ 9223372036854775807) (k : Nat) (hk : ps.length * (ps.length + 3) + 2 * es.length + ys.length + zs.length + 70 ≤ k) :
    cabstandref18_Check.f k R C es ps ys zs = some (firstOf (looksC R C es ps ys zs)) := by
  unfold cabstandref18_Check.f
  generalize hM : ps.length * (ps.length + 3) = M at hk
  have h1 := ref_pairs R C es ps (by omega) (by omega) k (by omega)
  have h2 := ref_bound R C es ys zs (by omega) (by omega) (by omega) hy k (by omega)
  rw [h1, Option.bind_some]
  unfold looksC
  by_cases hw : weighC R C es = 0
  · by_cases hpp : pairsB es (-1) [] ps = true
    · have hp0 : pairsC es ps = 0 := by unfold pairsC; rw [if_pos hpp]
      have hg := good_of hw
      have h64 : ps.length ≤ 64 := by
        have := pairs_few hg ps (-1) [] (by omega) (by omega) hpp
        omega
      have h3 := ref_worth hg (by omega) ps h64 ps.length 0 k 0 (by omega) (by omega) (by omega) (by omega)
      have h3' : cabstandref18_Worth.f k R C es ps = some (worthP es ps) := by
        refine h3.trans ?_
        rw [List.drop_zero, Int.zero_add]
      rw [hw, hp0, if_pos (show firstOf [0, 0] = 0 from rfl), h2, Option.bind_some]
      unfold boundC
      rw [hw]
      by_cases hl : lengthsC R C ys zs = 0
      · by_cases hd : dualC es ys zs = 0
        · rw [hl, hd, if_pos (show firstOf [0, 0, 0] = 0 from rfl)]
          have hG : firstOf [0, 0, 0, 0, gapC es ps ys zs] = gapC es ps ys zs := by
            simp only [firstOf]
            split <;> simp_all
          rw [hG]
          unfold gapC
          cases hc : clsum ys zs with
          | mk n b =>
            cases b with
            | false => simp
            | true =>
              rw [if_pos rfl, if_pos rfl, if_neg (show ¬ ((0 : Int) = 3) by decide), h3', Option.bind_some]
              show (if n = worthP es ps then some 0 else some 182) = _
              by_cases hq : n = worthP es ps
              · rw [if_pos hq, if_pos (by rw [hq])]
              · rw [if_neg hq, if_neg (fun h => hq (congrArg Prod.fst h))]
        · have hd' : dualC es ys zs = 181 := by
            unfold dualC at hd ⊢
            split
            · rename_i h; rw [if_pos h] at hd; exact absurd rfl hd
            · rfl
          rw [hl, hd']
          rfl
      · have hl' : lengthsC R C ys zs = 1 := by
          unfold lengthsC at hl ⊢
          split
          · split
            · rename_i h h'; rw [if_pos h, if_pos h'] at hl; exact absurd rfl hl
            · rfl
          · rfl
        rw [hl']
        rfl
    · have hp0 : pairsC es ps = 180 := by unfold pairsC; rw [if_neg hpp]
      rw [hw, hp0]
      rfl
  · have e1 : firstOf [weighC R C es, pairsC es ps] = weighC R C es := by simp [firstOf, hw]
    have e2 : firstOf [weighC R C es, pairsC es ps, lengthsC R C ys zs, dualC es ys zs, gapC es ps ys zs] = weighC R C es := by simp [firstOf, hw]
    rw [e1, e2, if_neg hw]
theorem certs_alike (R C : Int) (es : List S69) (ps : List S50) (ys zs : List Int) (hy : ∀ p ∈ ys, p ≤ 9223372036854775807) (h1 : es.length ≤ 1048576) (h2 : ps.length ≤ 1048576) (h3 : ys.length ≤ 1048576) (h4 : zs.length ≤ 1048576) : ∃ k r, cert_Check.f R C es ps ys zs = some r ∧ cabstandref18_Check.f k R C es ps ys zs = some r := by
  refine ⟨_, firstOf (looksC R C es ps ys zs), ?_, ref_cert R C es ps ys zs h1 h2 h3 h4 hy _ (Nat.le_refl _)⟩
  unfold cert_Check.f
  rw [if_pos ⟨by omega, by omega, by omega, by omega, hy⟩]
end Go.Proofs.Ytmdidgdcdlodlaa.Q
