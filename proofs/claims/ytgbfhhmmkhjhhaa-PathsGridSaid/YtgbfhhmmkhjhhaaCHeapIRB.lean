/- What a heap's methods do: HeapIR, up,down. Conditions: those that stand in each theorem. Written by wip/gen/heapg.py. -/
import Derived.Test.YtgbfhhmmkhjhhaaCHeapIRA
namespace Go.Proofs.Ytgbfhhmmkhjhhaa.HeapIR
open Go.RowKit Go.Proofs.YtgbfhhmmkhjhhaaW.PrintWords Go.Proofs.YtgbfhhmmkhjhhaaW.PrintLast Go.Proofs.YtgbfhhmmkhjhhaaW.PrintMore Go.Proofs.Ytgbfhhmmkhjhhaa.HeapW Go.Proofs.Ytgbfhhmmkhjhhaa.HeapP Go.Proofs.Ytgbfhhmmkhjhhaa.MapAt
set_option linter.unusedVariables false
set_option linter.unusedSimpArgs false
set_option maxHeartbeats 8000000 in
set_option maxRecDepth 100000 in
theorem up_calls (base g f : Nat) (lt : Pt → Pt → Bool) (hlt : Less f lt) (A : Option Addr) (cap b : Nat) (l : List It) (c : Int) (i : Nat) (w : World) (h : HAt w base g (.func (.func f) #[] #[]) A cap b l c) (hi : i < l.length) (hl : l.length ≤ 140737488355328) :
    Calls Try.prog 44 #[.pointer (some ⟨g, 0, none⟩), .int .i64 i] w fun e w' => e = .returned (.int .i64 ((upL lt i l i).2 : Nat)) ∧ HAt w' base g (.func (.func f) #[] #[]) A cap b (upL lt i l i).1 c ∧ Chg (hfp g A b) w w' := by
  have H := Aside0.mk h
  have HLT := Aside0.mk hlt
  have HI := Aside0.mk hi
  have HL := Aside0.mk hl
  clear h hlt hi hl
  go_enter Try.func44, Try.ntmps44
  go_wp2_with fail
  go_loopg [1] i (fun kq v1 w' => ∃ (m : Nat) (lq : List It), v1 = .int .i64 m ∧ Aside0 (m ≤ kq ∧ m < lq.length ∧ lq.length = l.length ∧ upL lt i l i = upL lt kq lq m) ∧ Aside0 (HAt w' base g (.func (.func f) #[] #[]) A cap b lq c) ∧ Aside0 (Chg (hfp g A b) w w'))
  case atStart => exact ⟨i, l, rfl, ⟨Nat.le_refl _, HI.out, rfl, rfl⟩, H, ⟨Chg.refl _ _⟩⟩
  case round =>
    obtain ⟨m, lq, rfl, HM, HQ, HC⟩ := hrel
    have hmx : (m : Int) ≤ 140737488355328 := by have := HM.out; have := HL.out; omega
    by_cases h0 : 0 < m
    · obtain ⟨kk, hkk⟩ : ∃ kk, gk = kk + 1 := ⟨gk - 1, by have := HM.out; omega⟩
      subst hkk
      have h0' : (0 : Int) < m := by omega
      obtain ⟨p, hp⟩ : ∃ p, p = (m - 1) / 2 := ⟨_, rfl⟩
      have hdv : Int.tdiv ((m : Int) - 1) 2 = (p : Int) := by rw [Int.tdiv_eq_ediv_of_nonneg (by omega)]; omega
      have hdv2 : ((m - 1 : Nat) : Int) / 2 = (p : Int) := by omega
      have HP := Aside0.mk hp
      clear hp
      have hpl : p < lq.length := by have := HM.out; have := HP.out; omega
      go_wp2_with fail
      refine (ahead_calls base g f lt HLT.out A cap b lq c m p wr HQ.out HM.out.2.1 hpl).mono ?_
      rintro e w2 ⟨rfl, hb⟩
      have HQ2 := Aside0.mk (HQ.out.below hb)
      have HC2 := Aside0.mk (HC.out.trans (Chg.of_below hb))
      clear hb
      cases ha : aheadB lt (at_ lq m) (at_ lq p) with
      | true =>
        have HA := Aside0.mk ha
        clear ha
        go_wp2_with fail
        refine (swap_calls base g _ A cap b lq c m p w2 HQ2.out HM.out.2.1 hpl).mono ?_
        rintro e w3 ⟨rfl, hs, hc⟩
        have HQ3 := Aside0.mk hs
        have HC3 := Aside0.mk (HC2.out.trans hc)
        clear hs hc
        go_wp2
        go_roundg kk
        case measure => omega
        case rel =>
          refine ⟨p, swapL lq m p, by first | rfl | simp, ⟨by have := HM.out; have := HP.out; omega, by rw [swapL_len]; exact hpl, by rw [swapL_len]; exact HM.out.2.2.1, ?_⟩, HQ3, HC3⟩
          have e1 : upL lt (kk + 1) lq m = upL lt kk (swapL lq m p) p := by
            show (if 0 < m ∧ aheadB lt (at_ lq m) (at_ lq ((m - 1) / 2)) = true then upL lt kk (swapL lq m ((m - 1) / 2)) ((m - 1) / 2) else (lq, m)) = _
            rw [← HP.out, if_pos ⟨h0, HA.out⟩]
          rw [HM.out.2.2.2, e1]
      | false =>
        have HA := Aside0.mk ha
        clear ha
        go_wp2
        go_ret
        have e1 : upL lt i l i = (lq, m) := by
          rw [HM.out.2.2.2]
          show (if 0 < m ∧ aheadB lt (at_ lq m) (at_ lq ((m - 1) / 2)) = true then upL lt kk (swapL lq m ((m - 1) / 2)) ((m - 1) / 2) else (lq, m)) = _
          rw [← HP.out, if_neg (fun q => by rw [HA.out] at q; exact absurd q.2 (by simp))]
        rw [e1]
        exact ⟨rfl, HQ2.out, HC2.out⟩
    · have hm0 : m = 0 := by omega
      subst hm0
      go_wp2
      go_ret
      have e1 : upL lt i l i = (lq, 0) := by
        rw [HM.out.2.2.2]
        cases gk with
        | zero => rfl
        | succ kk => rfl
      rw [e1]
      exact ⟨rfl, HQ.out, HC.out⟩
theorem firstL_end1 (lt : Pt → Pt → Bool) (l : List It) (i : Nat) (h : l.length ≤ 2 * i + 1) : firstL lt l i = i ∧ first1 lt l i = i := by
  have h1 : first1 lt l i = i := by unfold first1; rw [if_neg (fun q => by omega)]
  exact ⟨by unfold firstL; rw [if_neg (fun q => by omega), h1], h1⟩
theorem firstL_end2 (lt : Pt → Pt → Bool) (l : List It) (i : Nat) (h : l.length ≤ 2 * i + 2) : firstL lt l i = first1 lt l i := by
  unfold firstL; rw [if_neg (fun q => by omega)]
def firstN (lt : Pt → Pt → Bool) (l : List It) (i : Nat) : Nat → Nat
  | 0 => i
  | 1 => first1 lt l i
  | _ => firstL lt l i
set_option maxHeartbeats 8000000 in
set_option maxRecDepth 100000 in
theorem down_calls (base g f : Nat) (lt : Pt → Pt → Bool) (hlt : Less f lt) (A : Option Addr) (cap b : Nat) (l : List It) (c : Int) (i : Nat) (w : World) (h : HAt w base g (.func (.func f) #[] #[]) A cap b l c) (hi : i < l.length) (hl : l.length ≤ 140737488355328) :
    Calls Try.prog 43 #[.pointer (some ⟨g, 0, none⟩), .int .i64 i] w fun e w' => e = .returned (.tuple #[]) ∧ HAt w' base g (.func (.func f) #[] #[]) A cap b (downL lt l.length l i) c ∧ Chg (hfp g A b) w w' := by
  have H := Aside0.mk h
  have HLT := Aside0.mk hlt
  have HI := Aside0.mk hi
  have HL := Aside0.mk hl
  clear h hlt hi hl
  go_enter Try.func43, Try.ntmps43
  go_wp2_with fail
  go_loopg [1, 4, 5] l.length (fun kq v1 v4 v5 w' => ∃ (m : Nat) (lq : List It), v1 = .int .i64 m ∧ Aside0 (lq.length ≤ kq + m ∧ m < lq.length ∧ lq.length = l.length ∧ downL lt l.length l i = downL lt kq lq m) ∧ Aside0 (HAt w' base g (.func (.func f) #[] #[]) A cap b lq c) ∧ Aside0 (Chg (hfp g A b) w w'))
  case atStart => exact ⟨i, l, rfl, ⟨by omega, HI.out, rfl, rfl⟩, H, ⟨Chg.refl _ _⟩⟩
  case round =>
    obtain ⟨m, lq, rfl, HM, HQ, HC⟩ := hrel
    have hmx : (m : Int) ≤ 140737488355328 := by have := HM.out; have := HL.out; omega
    obtain ⟨kk, hkk⟩ : ∃ kk, gk = kk + 1 := ⟨gk - 1, by have := HM.out; omega⟩
    subst hkk
    go_wp2_with fail
    go_loopg [4, 5] 2 (fun nq v4 v5 w' => ∃ (n fq k : Nat), v4 = .int .i64 fq ∧ v5 = .int .i64 k ∧ Aside0 (n + nq = 2 ∧ fq = firstN lt lq m n ∧ k = 2 * m + 1 + n) ∧ Aside0 (HAt w' base g (.func (.func f) #[] #[]) A cap b lq c) ∧ Aside0 (Chg (hfp g A b) w w'))
    case atStart => exact ⟨0, m, 2 * m + 1, rfl, by first | rfl | simp, ⟨rfl, rfl, rfl⟩, HQ, HC⟩
    case round =>
      obtain ⟨n, fq, k, rfl, rfl, HN, HQ2, HC2⟩ := hrel
      cases gk with
      | zero =>
        have hle : ¬ (k : Int) ≤ 2 * (m : Int) + 2 := by have := HN.out; omega
        obtain ⟨m_, hm_⟩ : ∃ m_ : Nat, m_ = fq := ⟨_, rfl⟩
        have HFL : Aside0 (fq = firstL lt lq m) := ⟨by
          have h1 := HN.out
          have e : n = 2 := by omega
          rw [h1.2.1, e]
          rfl⟩
        have hfl : fq < lq.length := by rw [HFL.out]; exact firstL_lt lt lq HM.out.2.1
        clear hm_ m_
        by_cases hf : fq = m
        · have hf1 : (fq : Int) = (m : Int) := by omega
          have HF := Aside0.mk hf
          have hbe : ((fq : Int) == (m : Int)) = true := by rw [hf1]; exact beq_self_eq_true _
          clear hf hf1
          go_wp2
          first | go_end0 | (refine bodyPost_ret (results_none _ _ _ _) rfl ?_) | (refine bodyPost_ret (results_none rfl _ _ _) rfl ?_)
          have e1 : downL lt l.length l i = lq := by
            rw [HM.out.2.2.2]
            show (if firstL lt lq m = m then lq else downL lt kk (swapL lq m (firstL lt lq m)) (firstL lt lq m)) = lq
            rw [if_pos (by rw [← HFL.out]; exact HF.out)]
          rw [e1]
          exact ⟨rfl, HQ2.out, HC2.out⟩
        · have HF := Aside0.mk hf
          have hbe : ((fq : Int) == (m : Int)) = false := beq_eq_false_iff_ne.mpr (by omega)
          clear hf
          go_wp2_with fail
          refine (swap_calls base g _ A cap b lq c m fq wr HQ2.out HM.out.2.1 hfl).mono ?_
          rintro e w3 ⟨rfl, hs, hc⟩
          have HQ3 := Aside0.mk hs
          have HC3 := Aside0.mk (HC2.out.trans hc)
          clear hs hc
          go_wp2
          go_roundg kk
          case measure => omega
          case rel =>
            refine ⟨fq, swapL lq m fq, by first | rfl | simp, ⟨?_, by rw [swapL_len]; exact hfl, by rw [swapL_len]; exact HM.out.2.2.1, ?_⟩, HQ3, HC3⟩
            · have h1 := firstL_or lt lq m
              have h2 := HM.out.1
              have h3 := HFL.out
              have h4 := HF.out
              rw [swapL_len]
              omega
            · rw [HM.out.2.2.2]
              show (if firstL lt lq m = m then lq else downL lt kk (swapL lq m (firstL lt lq m)) (firstL lt lq m)) = _
              rw [if_neg (by rw [← HFL.out]; exact HF.out), ← HFL.out]
      | succ nk =>
        have hn : n = 0 ∨ n = 1 := by have := HN.out; omega
        have hle : (k : Int) ≤ 2 * (m : Int) + 2 := by have := HN.out; omega
        have hc1 : wr.cell? ⟨g, 1, none⟩ = some (.slice A lq.length cap) := (blk_cell HQ2.out.blk 1).trans rfl
        by_cases hk : k < lq.length
        · have hkl : (k : Int) < lq.length := by omega
          have HK := Aside0.mk hk
          have HFQ : Aside0 (fq < lq.length) := ⟨by
            rw [HN.out.2.1]
            rcases hn with e | e
            · rw [e]; exact HM.out.2.1
            · rw [e]; exact first1_lt lt lq HM.out.2.1⟩
          have HNN := Aside0.mk hn
          clear hk hn
          go_wp2_with fail
          refine (ahead_calls base g f lt HLT.out A cap b lq c k fq wr HQ2.out HK.out HFQ.out).mono ?_
          rintro e w2 ⟨rfl, hb⟩
          have HQ3 := Aside0.mk (HQ2.out.below hb)
          have HC3 := Aside0.mk (HC2.out.trans (Chg.of_below hb))
          clear hb hc1
          cases ha : aheadB lt (at_ lq k) (at_ lq fq) with
          | true =>
            have HA := Aside0.mk ha
            clear ha
            go_wp2
            go_roundg nk
            case measure => omega
            case rel => exact ⟨n + 1, k, k + 1, by first | rfl | simp, by first | rfl | simp, ⟨by have := HN.out; omega, by
              rcases HNN.out with e | e
              · have hk := HN.out.2.2
                have hq := HN.out.2.1
                have hA := HA.out
                have hK := HK.out
                subst e
                have e1 : fq = m := hq
                have e2 : k = 2 * m + 1 := by omega
                subst e1 e2
                show _ = first1 lt lq fq
                unfold first1
                rw [if_pos ⟨hK, hA⟩]
              · have hk := HN.out.2.2
                have hq := HN.out.2.1
                have hA := HA.out
                have hK := HK.out
                subst e
                have e1 : fq = first1 lt lq m := hq
                have e2 : k = 2 * m + 2 := by omega
                subst e2
                rw [e1] at hA
                show _ = firstL lt lq m
                unfold firstL
                rw [if_pos ⟨hK, hA⟩], by have := HN.out; omega⟩, HQ3, HC3⟩
          | false =>
            have HA := Aside0.mk ha
            clear ha
            go_wp2
            go_roundg nk
            case measure => omega
            case rel => exact ⟨n + 1, fq, k + 1, by first | rfl | simp, by first | rfl | simp, ⟨by have := HN.out; omega, by
              rcases HNN.out with e | e
              · have hk := HN.out.2.2
                have hq := HN.out.2.1
                have hA := HA.out
                have hK := HK.out
                subst e
                have e1 : fq = m := hq
                have e2 : k = 2 * m + 1 := by omega
                subst e1 e2
                show _ = first1 lt lq fq
                unfold first1
                rw [if_neg (fun q => by rw [hA] at q; exact absurd q.2 (by simp))]
              · have hk := HN.out.2.2
                have hq := HN.out.2.1
                have hA := HA.out
                have hK := HK.out
                subst e
                have e1 : fq = first1 lt lq m := hq
                have e2 : k = 2 * m + 2 := by omega
                subst e2
                rw [e1] at hA
                show _ = firstL lt lq m
                unfold firstL
                rw [if_neg (fun q => by rw [hA] at q; exact absurd q.2 (by simp)), e1], by have := HN.out; omega⟩, HQ3, HC3⟩
        · have hkl : ¬ (k : Int) < lq.length := by omega
          have HK := Aside0.mk hk
          have HNN := Aside0.mk hn
          clear hk hn
          obtain ⟨m_, hm_⟩ : ∃ m_ : Nat, m_ = fq := ⟨_, rfl⟩
          have HFL : Aside0 (fq = firstL lt lq m) := ⟨by
            have h1 := HN.out
            have h2 := HK.out
            rcases HNN.out with e | e
            · rw [h1.2.1, e, (firstL_end1 lt lq m (by omega)).1]
              rfl
            · rw [h1.2.1, e, firstL_end2 lt lq m (by omega)]
              rfl⟩
          have hfl : fq < lq.length := by rw [HFL.out]; exact firstL_lt lt lq HM.out.2.1
          clear hm_ m_
          by_cases hf : fq = m
          · have hf1 : (fq : Int) = (m : Int) := by omega
            have HF := Aside0.mk hf
            have hbe : ((fq : Int) == (m : Int)) = true := by rw [hf1]; exact beq_self_eq_true _
            clear hf hf1
            go_wp2
            first | go_end0 | (refine bodyPost_ret (results_none _ _ _ _) rfl ?_) | (refine bodyPost_ret (results_none rfl _ _ _) rfl ?_)
            have e1 : downL lt l.length l i = lq := by
              rw [HM.out.2.2.2]
              show (if firstL lt lq m = m then lq else downL lt kk (swapL lq m (firstL lt lq m)) (firstL lt lq m)) = lq
              rw [if_pos (by rw [← HFL.out]; exact HF.out)]
            rw [e1]
            exact ⟨rfl, HQ2.out, HC2.out⟩
          · have HF := Aside0.mk hf
            have hbe : ((fq : Int) == (m : Int)) = false := beq_eq_false_iff_ne.mpr (by omega)
            clear hf
            go_wp2_with fail
            refine (swap_calls base g _ A cap b lq c m fq wr HQ2.out HM.out.2.1 hfl).mono ?_
            rintro e w3 ⟨rfl, hs, hc⟩
            have HQ3 := Aside0.mk hs
            have HC3 := Aside0.mk (HC2.out.trans hc)
            clear hs hc
            go_wp2
            go_roundg kk
            case measure => omega
            case rel =>
              refine ⟨fq, swapL lq m fq, by first | rfl | simp, ⟨?_, by rw [swapL_len]; exact hfl, by rw [swapL_len]; exact HM.out.2.2.1, ?_⟩, HQ3, HC3⟩
              · have h1 := firstL_or lt lq m
                have h2 := HM.out.1
                have h3 := HFL.out
                have h4 := HF.out
                rw [swapL_len]
                omega
              · rw [HM.out.2.2.2]
                show (if firstL lt lq m = m then lq else downL lt kk (swapL lq m (firstL lt lq m)) (firstL lt lq m)) = _
                rw [if_neg (by rw [← HFL.out]; exact HF.out), ← HFL.out]
end Go.Proofs.Ytgbfhhmmkhjhhaa.HeapIR
