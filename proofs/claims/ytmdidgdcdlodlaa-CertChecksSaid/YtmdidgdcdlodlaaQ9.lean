/- What functions of the program answer, each by a Lean function and the proof of its call; written by this session's program gp.py and by hand. Conditions: those that stand in each theorem. -/
import Derived.Test.YtmdidgdcdlodlaaQ0
import Derived.Test.YtmdidgdcdlodlaaQ3
import Derived.Test.YtmdidgdcdlodlaaQ4
import Derived.Test.YtmdidgdcdlodlaaQ5
import Derived.Test.YtmdidgdcdlodlaaQ6
import Derived.Test.YtmdidgdcdlodlaaQ7
import Derived.Test.YtmdidgdcdlodlaaQ8
namespace Go.Proofs.Ytmdidgdcdlodlaa.Q
open Go.RowKit Go.Proofs.YtmdidgdcdlodlaaW.PrintWords Go.Proofs.YtmdidgdcdlodlaaW.PrintLast Go.Proofs.YtmdidgdcdlodlaaW.PrintMore
attribute [local go_sem] max2_int min2_int max_two min_two max_three min_three max_four min_four   -- for this text's walks alone
set_option linter.unusedVariables false
set_option linter.unusedSimpArgs false

/-! ### cert_Check: function 13 -/
/-! the weight that the program finds by halving, and the list's own -/
def wt : List S69 → Int → Int → Int
  | [], _, _ => 0
  | e :: es, r, c => if e.f0 = r ∧ e.f1 = c then e.f2 else wt es r c
def edgeLt (a b : S69) : Prop := a.f0 < b.f0 ∨ (a.f0 = b.f0 ∧ a.f1 < b.f1)
theorem edgeLt_trans {a b c : S69} (h : edgeLt a b) (k : edgeLt b c) : edgeLt a c := by unfold edgeLt at *; omega
/-- the edges rise -/
def Rise (es : List S69) : Prop := es.Pairwise edgeLt
theorem edgesOK_rise {R C : Int} : ∀ (es : List S69) (r c : Int), edgesOK R C r c es = true → Rise es ∧ (∀ e ∈ es, r < e.f0 ∨ (r = e.f0 ∧ c < e.f1)) ∧ (∀ e ∈ es, edgeIn R C e = true)
  | [], _, _, _ => ⟨List.Pairwise.nil, by simp, by simp⟩
  | e :: es, r, c, h => by
    simp only [edgesOK, Bool.and_eq_true] at h
    obtain ⟨⟨h1, h2⟩, h3⟩ := h
    obtain ⟨a, b, d⟩ := edgesOK_rise es _ _ h3
    simp only [edgeUp, decide_eq_true_eq] at h2
    refine ⟨List.Pairwise.cons (fun x hx => b x hx) a, ?_, ?_⟩
    · intro x hx
      rcases List.mem_cons.1 hx with rfl | hx
      · exact h2
      · have := b x hx; omega
    · intro x hx
      rcases List.mem_cons.1 hx with rfl | hx
      · exact h1
      · exact d x hx
theorem wt_of_mem {es : List S69} (hr : Rise es) {e : S69} (he : e ∈ es) : wt es e.f0 e.f1 = e.f2 := by
  induction es with
  | nil => cases he
  | cons x xs ih =>
    obtain ⟨h1, h2⟩ := List.pairwise_cons.1 hr
    rcases List.mem_cons.1 he with rfl | he
    · simp [wt]
    · have := h1 e he
      simp only [wt]
      rw [if_neg (by unfold edgeLt at this; omega)]
      exact ih h2 he
theorem wt_zero {es : List S69} {r c : Int} (h : ∀ e ∈ es, ¬ (e.f0 = r ∧ e.f1 = c)) : wt es r c = 0 := by
  induction es with
  | nil => rfl
  | cons x xs ih =>
    simp only [wt]
    rw [if_neg (h x (by simp))]
    exact ih (fun e he => h e (by simp [he]))
theorem wt_ne {es : List S69} {r c : Int} (h : wt es r c ≠ 0) : ∃ e ∈ es, e.f0 = r ∧ e.f1 = c ∧ e.f2 = wt es r c := by
  induction es with
  | nil => simp [wt] at h
  | cons x xs ih =>
    by_cases q : x.f0 = r ∧ x.f1 = c
    · exact ⟨x, by simp, q.1, q.2, by simp [wt, q]⟩
    · simp only [wt, if_neg q] at h ⊢
      obtain ⟨e, he, h1⟩ := ih h
      exact ⟨e, by simp [he], h1⟩
theorem rise_at {es : List S69} (hr : Rise es) {i j : Int} (h0 : 0 ≤ i) (hij : i < j) (hj : j < es.length) : edgeLt (rd_T69 es i) (rd_T69 es j) := by
  have h1 : i.toNat < es.length := by omega
  have h2 : j.toNat < es.length := by omega
  have := (List.pairwise_iff_getElem.1 hr) i.toNat j.toNat h1 h2 (by omega)
  simpa [rd_T69, List.getD, h1, h2] using this
theorem mem_at {es : List S69} {e : S69} (he : e ∈ es) : ∃ i : Int, 0 ≤ i ∧ i < es.length ∧ rd_T69 es i = e := by
  obtain ⟨n, hn, h⟩ := List.getElem_of_mem he
  exact ⟨n, by omega, by omega, by simp [rd_T69, List.getD, hn, h]⟩
theorem mid_in {lo hi : Int} {n : Nat} (h0 : 0 ≤ lo) (h1 : lo < hi) (h2 : hi ≤ n) (hn : n ≤ 1152921504606846976) : wrap64 (Int.tdiv (wrap64 (lo + hi)) 2) = (lo + hi) / 2 ∧ lo ≤ (lo + hi) / 2 ∧ (lo + hi) / 2 < hi := by
  have e1 : wrap64 (lo + hi) = lo + hi := by unfold wrap64; omega
  rw [e1, Int.tdiv_eq_ediv_of_nonneg (by omega)]
  refine ⟨by unfold wrap64; omega, by omega, by omega⟩
theorem weight_finds {es : List S69} (hr : Rise es) (hn : es.length ≤ 1152921504606846976) (a b : Int) (ps : List S50) (ys zs : List Int) (r c : Int) (d : Nat) : ∀ (k : Nat) (lo hi : Int), 0 ≤ lo → lo ≤ hi → hi ≤ es.length → hi - lo = d → d < k →
    (∀ i : Int, 0 ≤ i → i < lo → ((rd_T69 es i).f0 < r ∨ ((rd_T69 es i).f0 = r ∧ (rd_T69 es i).f1 < c))) →
    (∀ i : Int, hi ≤ i → i < es.length → ¬ ((rd_T69 es i).f0 < r ∨ ((rd_T69 es i).f0 = r ∧ (rd_T69 es i).f1 < c))) →
    cert_claim_weight.l0 k lo hi a b es ps ys zs r c = some (wt es r c) := by
  induction d using Nat.strongRecOn with
  | _ d ih =>
  intro k lo hi h0 h1 h2 hd hk hL hH
  obtain ⟨k, rfl⟩ : ∃ m, k = m + 1 := ⟨k - 1, by omega⟩
  simp only [cert_claim_weight.l0]
  by_cases hlt : lo < hi
  · obtain ⟨e1, m1, m2⟩ := mid_in h0 hlt h2 hn
    rw [if_pos hlt, e1, if_pos (by omega), if_pos (by omega)]
    generalize hm : (lo + hi) / 2 = m at *
    have e2 : wrap64 (m + 1) = m + 1 := by unfold wrap64; omega
    rw [e2]
    have up : ((rd_T69 es m).f0 < r ∨ ((rd_T69 es m).f0 = r ∧ (rd_T69 es m).f1 < c)) → cert_claim_weight.l0 k (m + 1) hi a b es ps ys zs r c = some (wt es r c) := by
      intro q
      refine ih (hi - (m + 1)).toNat (by omega) k (m + 1) hi (by omega) (by omega) h2 (by omega) (by omega) ?_ hH
      intro i i0 i1
      by_cases him : i = m
      · rw [him]; exact q
      · have := rise_at hr i0 (show i < m by omega) (by omega)
        unfold edgeLt at this
        omega
    have dn : ¬ ((rd_T69 es m).f0 < r ∨ ((rd_T69 es m).f0 = r ∧ (rd_T69 es m).f1 < c)) → cert_claim_weight.l0 k lo m a b es ps ys zs r c = some (wt es r c) := by
      intro q
      refine ih (m - lo).toNat (by omega) k lo m h0 (by omega) (by omega) (by omega) (by omega) hL ?_
      intro i i0 i1
      by_cases him : i = m
      · rw [him]; exact q
      · have := rise_at hr (show 0 ≤ m by omega) (show m < i by omega) i1
        unfold edgeLt at this
        omega
    by_cases q1 : (rd_T69 es m).f0 < r
    · rw [if_pos q1]; exact up (Or.inl q1)
    · rw [if_neg q1]
      by_cases q2 : (rd_T69 es m).f0 = r
      · rw [if_pos q2]
        by_cases q3 : (rd_T69 es m).f1 < c
        · rw [if_pos q3]; exact up (Or.inr ⟨q2, q3⟩)
        · rw [if_neg q3]; exact dn (by omega)
      · rw [if_neg q2]; exact dn (by omega)
  · obtain rfl : lo = hi := by omega
    rw [if_neg hlt]
    have nowhere : (∀ e, lo < es.length → rd_T69 es lo = e → ¬ (e.f0 = r ∧ e.f1 = c)) → wt es r c = 0 := by
      intro hno
      refine wt_zero (fun e he hq => ?_)
      obtain ⟨i, i0, i1, rfl⟩ := mem_at he
      by_cases hi1 : i < lo
      · have := hL i i0 hi1; omega
      · by_cases hi2 : i = lo
        · subst hi2; exact hno _ i1 rfl hq
        · have hq2 := hH lo (by omega) (by omega)
          have := rise_at hr h0 (show lo < i by omega) i1
          unfold edgeLt at this
          omega
    by_cases hl : lo < es.length
    · rw [if_pos hl, if_pos h0]
      by_cases q1 : (rd_T69 es lo).f0 = r
      · rw [if_pos q1]
        by_cases q2 : (rd_T69 es lo).f1 = c
        · rw [if_pos q2]
          have := wt_of_mem hr (rdT_mem es lo h0 hl)
          rw [q1, q2] at this
          rw [this]
        · rw [if_neg q2, nowhere (fun e _ he hq => q2 (he ▸ hq.2))]
      · rw [if_neg q1, nowhere (fun e _ he hq => q1 (he ▸ hq.1))]
    · rw [if_neg hl, nowhere (fun e h _ => absurd h hl)]
theorem weight_is {es : List S69} (hr : Rise es) (hn : es.length ≤ 1152921504606846976) (a b : Int) (ps : List S50) (ys zs : List Int) (r c : Int) (k : Nat) (hk : es.length < k) : cert_claim_weight.f k a b es ps ys zs r c = some (wt es r c) :=
  weight_finds hr hn a b ps ys zs r c es.length k 0 es.length (by omega) (by omega) (by omega) (by omega) hk (fun i h0 h1 => by omega) (fun i h0 h1 => by omega)
/-- are pairs a matching? (of a graph that may be: last: the row before; tk: the columns that are taken) -/
def pairsB (es : List S69) : Int → List Int → List S50 → Bool
  | _, _, [] => true
  | lst, tk, p :: ps => decide (lst < p.f0) && (wt es p.f0 p.f1 != 0) && !(tk.contains p.f1) && pairsB es p.f0 (p.f1 :: tk) ps
theorem drop_T50 (l : List S50) (x : Int) (h0 : 0 ≤ x) (h1 : x < l.length) : l.drop x.toNat = rd_T50 l x :: l.drop (x + 1).toNat := by
  have h2 : x.toNat < l.length := by omega
  rw [List.drop_eq_getElem_cons h2]
  congr 1
  · simp [rd_T50, List.getD, h2]
  · congr 1; omega
/-- the array of the columns that are taken -/
def Taken (cs : Array Value) (tk : List Int) : Prop := ∀ i : Nat, i < 64 → cs[i]? = some (.bool (tk.contains (i : Int)))
theorem taken_none : Taken (Array.replicate 64 (Value.bool false)) [] := fun i hi => by simp [hi]
theorem taken_put {cs : Array Value} {tk : List Int} (h : Taken cs tk) (c : Nat) (hc : c < 64) : Taken (cs.setIfInBounds c (.bool true)) ((c : Int) :: tk) := by
  intro i hi
  have hs : c < cs.size := by
    have := h c hc
    exact (Array.getElem?_eq_some_iff.1 this).1
  rw [Array.getElem?_setIfInBounds]
  by_cases e : c = i
  · subst e; simp [hs]
  · rw [if_neg e, h i hi]
    simp only [List.contains_cons, Option.some.injEq, Value.bool.injEq]
    have : ((i : Int) == (c : Int)) = false := by simp; omega
    rw [this, Bool.false_or]

theorem blk_new1 (w : World) (o o' : Obj) : ((w.alloc o).alloc o').heap[w.heap.size + 1]? = some o' := by
  have := blk_new (w.alloc o) o'
  rwa [World.size_alloc] at this
set_option maxHeartbeats 8000000 in
set_option maxRecDepth 100000 in
theorem pairs_calls (a0_0 : Int) (a0_1 : Int) (A0_2 : Option Addr) (c0_2 : Nat) (l0_2 : List (S69)) (A0_3 : Option Addr) (c0_3 : Nat) (l0_3 : List (S50)) (A0_4 : Option Addr) (c0_4 : Nat) (l0_4 : List Int) (A0_5 : Option Addr) (c0_5 : Nat) (l0_5 : List Int) (w : World)
    (hr0_2 : Kd.C k69 w A0_2 l0_2.length l0_2) (hc0_2 : l0_2.length ≤ c0_2) (hr0_3 : Kd.C k50 w A0_3 l0_3.length l0_3) (hc0_3 : l0_3.length ≤ c0_3) (hr0_4 : Kd.C (Kd.int .i64) w A0_4 l0_4.length l0_4) (hc0_4 : l0_4.length ≤ c0_4) (hr0_5 : Kd.C (Kd.int .i64) w A0_5 l0_5.length l0_5) (hc0_5 : l0_5.length ≤ c0_5)
    (hrise : Rise l0_2) (hcols : ∀ e ∈ l0_2, 0 ≤ e.f1 ∧ e.f1 < 64) (hl2 : l0_2.length ≤ 1152921504606846976) (hl3 : l0_3.length ≤ 1152921504606846976) :
    Calls Try.prog 32 #[.agg (clm a0_0 a0_1 A0_2 c0_2 l0_2 A0_3 c0_3 l0_3 A0_4 c0_4 l0_4 A0_5 c0_5 l0_5)] w fun e w' => e = .returned (.int .i64 (if pairsB l0_2 (-1) [] l0_3 then 0 else 180)) ∧ Below w.heap.size w w' := by
  unfold clm
  have HR2 := Aside0.mk hr0_2
  have HR3 := Aside0.mk hr0_3
  have HR4 := Aside0.mk hr0_4
  have HR5 := Aside0.mk hr0_5
  have HC2 := Aside0.mk hc0_2
  have HC3 := Aside0.mk hc0_3
  have HC4 := Aside0.mk hc0_4
  have HC5 := Aside0.mk hc0_5
  have HRISE := Aside0.mk hrise
  have HCOLS := Aside0.mk hcols
  have HL2 := Aside0.mk hl2
  have HL3 := Aside0.mk hl3
  clear hr0_2 hc0_2 hr0_3 hc0_3 hr0_4 hc0_4 hr0_5 hc0_5 hrise hcols hl2 hl3
  obtain ⟨R, hR⟩ : ∃ R : Int, R = if pairsB l0_2 (-1) [] l0_3 then 0 else 180 := ⟨_, rfl⟩
  rw [← hR]
  have HRES := Aside0.mk hR
  clear hR
  go_enter Try.func32, Try.ntmps32
  go_wp2
  go_loopg [4, 11] l0_3.length (fun kq v4 v11 wr => ∃ (lst x : Int), v4 = .int .i64 lst ∧ v11 = .int .i64 x ∧ Aside0 (0 ≤ x ∧ x + kq = l0_3.length)
      ∧ Aside0 (∃ tk cs, wr.heap[w.heap.size + 1]? = some (.cells cs 73 (0, 0)) ∧ Taken cs tk ∧ pairsB l0_2 (-1) [] l0_3 = pairsB l0_2 lst tk (l0_3.drop x.toNat))
      ∧ Aside0 (wr.heap[w.heap.size]? = some (.cells #[.int .i64 a0_0, .int .i64 a0_1, .slice A0_2 l0_2.length c0_2, .slice A0_3 l0_3.length c0_3, .slice A0_4 l0_4.length c0_4, .slice A0_5 l0_5.length c0_5] 55 (0, 0))) ∧ Aside0 (Below w.heap.size w wr))
  case atStart => exact ⟨-1, 0, rfl, rfl, ⟨by omega⟩, ⟨[], Array.replicate 64 (.bool false), blk_new1 _ _ _, taken_none, by simp⟩, ⟨blk_alloc (blk_new _ _) _⟩, ⟨below_alloc (below_alloc (Below.refl _ _) _) _⟩⟩
  case round =>
    obtain ⟨lst, x, rfl, rfl, HX, HT, BK, HB⟩ := hrel
    obtain ⟨tk, cs, BT, HTK, HP⟩ := HT.out
    have BT := Aside0.mk BT
    have HTK := Aside0.mk HTK
    have HP := Aside0.mk HP
    clear HT
    obtain ⟨hx0, hx1⟩ := HX.out
    by_cases hlt : x < (l0_3.length : Int)
    · have hx2 : x + 1 ≤ 1152921504606846976 := by have := HL3.out; omega
      have hdr := drop_T50 l0_3 x hx0 hlt
      obtain ⟨ad, ead, h0, h1⟩ := at_T50 HR3.out x hx0 hlt
      cases ead
      replace h0 := pw_cell_below HB.out h0
      replace h1 := pw_cell_below HB.out h1
      obtain ⟨p, hp⟩ : ∃ e, e = rd_T50 l0_3 x := ⟨_, rfl⟩
      rw [← hp] at h0 h1 hdr
      have HD := Aside0.mk hdr
      clear hp hdr
      have z0 : w.heap.size < wr.heap.size := blk_lt BK.out
      have z1 : w.heap.size + 1 < wr.heap.size := blk_lt BT.out
      have c0 : wr.cell? ⟨w.heap.size, 0, none⟩ = some (.int .i64 a0_0) := (blk_cell BK.out 0).trans rfl
      have c1 : wr.cell? ⟨w.heap.size, 1, none⟩ = some (.int .i64 a0_1) := (blk_cell BK.out 1).trans rfl
      have c2 : wr.cell? ⟨w.heap.size, 2, none⟩ = some (.slice A0_2 l0_2.length c0_2) := (blk_cell BK.out 2).trans rfl
      have c3 : wr.cell? ⟨w.heap.size, 3, none⟩ = some (.slice (some ad) l0_3.length c0_3) := (blk_cell BK.out 3).trans rfl
      have c4 : wr.cell? ⟨w.heap.size, 4, none⟩ = some (.slice A0_4 l0_4.length c0_4) := (blk_cell BK.out 4).trans rfl
      have c5 : wr.cell? ⟨w.heap.size, 5, none⟩ = some (.slice A0_5 l0_5.length c0_5) := (blk_cell BK.out 5).trans rfl
      by_cases q1 : p.f0 ≤ lst
      · go_wp2
        go_ret
        refine ⟨ret_i64 ?_, below_alloc HB.out _⟩
        have q2 : ¬ lst < p.f0 := by omega
        rw [HRES.out, HP.out, HD.out]
        simp [pairsB, q2]
      · obtain ⟨W, hW⟩ : ∃ W : Int, W = wt l0_2 p.f0 p.f1 := ⟨_, rfl⟩
        have HW := Aside0.mk hW
        clear hW
        have HB0 : Aside0 (Below w.heap.size w (wr.alloc (.cells #[.int .i64 p.f0, .int .i64 p.f1] 50))) := ⟨below_alloc HB.out _⟩
        have HWE : Aside0 (cert_claim_weight.f (l0_2.length + 1) a0_0 a0_1 l0_2 l0_3 l0_4 l0_5 p.f0 p.f1 = some W) := ⟨by rw [HW.out]; exact weight_is HRISE.out HL2.out _ _ _ _ _ _ _ _ (by omega)⟩
        go_wp2_with fail
        refine (cert_claim_weight.calls (l0_2.length + 1) a0_0 a0_1 _ _ l0_2 _ _ l0_3 _ _ l0_4 _ _ l0_5 p.f0 p.f1 W _ (Kd.C_below HR2.out HB0.out) HC2.out (Kd.C_below HR3.out HB0.out) HC3.out (Kd.C_below HR4.out HB0.out) HC4.out (Kd.C_below HR5.out HB0.out) HC5.out HWE.out).mono ?_
        rintro e w1 ⟨rfl, hb⟩
        have HB1 := Aside0.mk (below_then HB0.out (HB0.out.size) hb)
        have BK1 := Aside0.mk (blk_below (blk_alloc BK.out (.cells #[.int .i64 p.f0, .int .i64 p.f1] 50)) hb)
        have BT1 := Aside0.mk (blk_below (blk_alloc BT.out (.cells #[.int .i64 p.f0, .int .i64 p.f1] 50)) hb)
        have BP1 := Aside0.mk (blk_below (blk_new wr (.cells #[.int .i64 p.f0, .int .i64 p.f1] 50)) hb)
        clear hb c0 c1 c2 c3 c4 c5 h0 h1
        have d0 : w1.cell? ⟨wr.heap.size, 0, none⟩ = some (.int .i64 p.f0) := (blk_cell BP1.out 0).trans rfl
        have d1 : w1.cell? ⟨wr.heap.size, 1, none⟩ = some (.int .i64 p.f1) := (blk_cell BP1.out 1).trans rfl
        have q2 : lst < p.f0 := by omega
        by_cases q3 : W = 0
        · subst q3
          go_wp2
          go_ret
          refine ⟨ret_i64 ?_, HB1.out⟩
          rw [HRES.out, HP.out, HD.out]
          simp [pairsB, ← HW.out]
        · have q3b : (W == 0) = false := beq_eq_false_iff_ne.2 q3
          obtain ⟨e, he, e0, e1, e2⟩ := wt_ne (show wt l0_2 p.f0 p.f1 ≠ 0 from HW.out ▸ q3)
          obtain ⟨hc0, hc1⟩ := HCOLS.out e he
          rw [e1] at hc0 hc1
          clear he e0 e1 e2 e
          obtain ⟨c, hc⟩ := Int.eq_ofNat_of_zero_le hc0
          have hc64 : c < 64 := by omega
          have t0 : w1.cell? ⟨w.heap.size + 1, p.f1.toNat, none⟩ = some (.bool (tk.contains p.f1)) := by
            rw [hc, Int.toNat_natCast]
            exact (blk_cell BT1.out c).trans (HTK.out c hc64)
          have tf := blk_frozen BT1.out p.f1.toNat
          have HCC := Aside0.mk hc
          clear hc
          obtain ⟨b, hb⟩ : ∃ b, b = tk.contains p.f1 := ⟨_, rfl⟩
          rw [← hb] at t0
          have HBE := Aside0.mk hb
          have Q3 := Aside0.mk q3
          clear hb q3
          cases b with
          | true =>
            go_wp2
            go_ret
            refine ⟨ret_i64 ?_, HB1.out⟩
            have hf : pairsB l0_2 lst tk (p :: l0_3.drop (x + 1).toNat) = false := by
              simp only [pairsB]
              rw [← HBE.out]
              simp
            rw [HRES.out, HP.out, HD.out, hf]
            rfl
          | false =>
            go_wp2
            obtain ⟨g, rfl⟩ : ∃ g, gk = g + 1 := ⟨gk - 1, by omega⟩
            go_roundg g
            case measure => omega
            case rel =>
              have hn : w.heap.size ≠ w.heap.size + 1 := by omega
              have hn2 : w.heap.size ≠ wr.heap.size := by omega
              have hp := taken_put HTK.out p.f1.toNat (by omega)
              rw [show ((p.f1.toNat : Nat) : Int) = p.f1 from by omega] at hp
              exact ⟨p.f0, x + 1, rfl, by go_num, ⟨by omega⟩, ⟨p.f1 :: tk, _, blk_put BT1.out p.f1.toNat _ rfl, hp, by rw [HP.out, HD.out]; simp only [pairsB]; rw [← HBE.out, ← HW.out]; simp [q2, Q3.out]⟩, ⟨blk_far BK1.out hn _⟩, ⟨below_set HB1.out (Nat.le_succ _)⟩⟩
    · go_wp2
      go_ret
      refine ⟨ret_i64 ?_, HB.out⟩
      rw [HRES.out, HP.out, List.drop_eq_nil_of_le (by omega)]
      simp [pairsB]
def worthP (es : List S69) : List S50 → Int
  | [] => 0
  | p :: ps => wt es p.f0 p.f1 + worthP es ps
def Fits (es : List S69) (ps : List S50) (ys zs : List Int) : Prop := es.length ≤ 1152921504606846976 ∧ ps.length ≤ 1152921504606846976 ∧ ys.length ≤ 1152921504606846976 ∧ zs.length ≤ 1152921504606846976 ∧ ∀ p ∈ ys, p ≤ 9223372036854775807
instance (es : List S69) (ps : List S50) (ys zs : List Int) : Decidable (Fits es ps ys zs) := by unfold Fits; exact inferInstance
def gapC (es : List S69) (ps : List S50) (ys zs : List Int) : Int := if clsum ys zs = (worthP es ps, true) then 0 else 182
def pairsC (es : List S69) (ps : List S50) : Int := if pairsB es (-1) [] ps then 0 else 180
def lengthsC (R C : Int) (ys zs : List Int) : Int := if (ys.length : Int) = R then (if (zs.length : Int) = C then 0 else 1) else 1
def dualC (es : List S69) (ys zs : List Int) : Int := if holdB es ys zs then 0 else 181
/-- what is known of a graph that may be -/
structure Good (R C : Int) (es : List S69) : Prop where
  r0 : 0 ≤ R
  r1 : R ≤ 64
  c0 : 0 ≤ C
  c1 : C ≤ 64
  rise : Rise es
  inn : ∀ e ∈ es, 0 ≤ e.f0 ∧ e.f0 < R ∧ 0 ≤ e.f1 ∧ e.f1 < C ∧ 1 ≤ e.f2 ∧ e.f2 ≤ 1099513724929
theorem good_of {R C : Int} {es : List S69} (h : weighC R C es = 0) : Good R C es := by
  unfold weighC at h
  split at h
  · cases h
  · rename_i hb
    simp only [Bool.or_eq_true, Bool.not_eq_true', not_or, Bool.not_eq_false, Bool.not_eq_true] at hb
    obtain ⟨h1, h2⟩ := hb
    obtain ⟨a, b, c⟩ := edgesOK_rise es _ _ h2
    simp only [bad0, Bool.or_eq_false_iff, decide_eq_false_iff_not] at h1
    exact ⟨by omega, by omega, by omega, by omega, a, fun e he => by simpa [edgeIn] using c e he⟩
theorem weighC_good {R C : Int} {es : List S69} (h : Good R C es) : weighC R C es = 0 := by
  have hE : ∀ (l : List S69) (r c : Int), l.Pairwise edgeLt → (∀ e ∈ l, r < e.f0 ∨ (r = e.f0 ∧ c < e.f1)) → (∀ e ∈ l, edgeIn R C e = true) → edgesOK R C r c l = true := by
    intro l
    induction l with
    | nil => intros; rfl
    | cons e l ih =>
      intro r c hp hu hi
      obtain ⟨h1, h2⟩ := List.pairwise_cons.1 hp
      simp only [edgesOK, Bool.and_eq_true]
      refine ⟨⟨hi e (by simp), ?_⟩, ih e.f0 e.f1 h2 (fun x hx => h1 x hx) (fun x hx => hi x (by simp [hx]))⟩
      simpa [edgeUp] using hu e (by simp)
  have := hE es (-1) 0 h.rise (fun e he => by have := h.inn e he; omega) (fun e he => by have := h.inn e he; simp [edgeIn]; omega)
  have b0 : bad0 R C = false := by have := h.r0; have := h.r1; have := h.c0; have := h.c1; simp [bad0]; omega
  simp [weighC, this, b0]
theorem pairs_few {R C : Int} {es : List S69} (hg : Good R C es) : ∀ (ps : List S50) (lst : Int) (tk : List Int), -1 ≤ lst → lst ≤ 63 → pairsB es lst tk ps = true → (ps.length : Int) ≤ 63 - lst
  | [], lst, _, _, h1, _ => by simp; omega
  | p :: ps, lst, tk, h0, h1, h => by
    simp only [pairsB, Bool.and_eq_true, decide_eq_true_eq, bne_iff_ne] at h
    obtain ⟨⟨⟨a, b⟩, _⟩, d⟩ := h
    obtain ⟨e, he, e0, _, _⟩ := wt_ne b
    have := hg.inn e he
    have := hg.r1
    have := pairs_few hg ps p.f0 _ (by omega) (by omega) d
    simp only [List.length_cons]
    omega
theorem pairs_in {es : List S69} : ∀ (ps : List S50) (lst : Int) (tk : List Int), pairsB es lst tk ps = true → ∀ p ∈ ps, wt es p.f0 p.f1 ≠ 0
  | [], _, _, _, p, hp => by cases hp
  | q :: ps, lst, tk, h, p, hp => by
    simp only [pairsB, Bool.and_eq_true, decide_eq_true_eq, bne_iff_ne] at h
    rcases List.mem_cons.1 hp with rfl | hp
    · exact h.1.1.2
    · exact pairs_in ps _ _ h.2 p hp
theorem wt_bound {R C : Int} {es : List S69} (hg : Good R C es) (r c : Int) : 0 ≤ wt es r c ∧ wt es r c ≤ 1099513724929 := by
  by_cases h : wt es r c = 0
  · omega
  · obtain ⟨e, he, _, _, e2⟩ := wt_ne h
    have := hg.inn e he
    omega
theorem worth_bound {R C : Int} {es : List S69} (hg : Good R C es) : ∀ (ps : List S50), 0 ≤ worthP es ps ∧ worthP es ps ≤ ps.length * 1099513724929
  | [] => by simp [worthP]
  | p :: ps => by
    have := wt_bound hg p.f0 p.f1
    have := worth_bound hg ps
    simp only [worthP, List.length_cons]
    omega
theorem gap_steps {R C : Int} {es : List S69} (hg : Good R C es) (hn : es.length ≤ 1152921504606846976) (a b : Int) (ps qs : List S50) (ys zs : List Int) (hps : ps.length ≤ 64)
    (hs : cert_claim_sum.f a b es qs ys zs = some (clsum ys zs)) (d : Nat) : ∀ (k : Nat) (acc x : Int), 0 ≤ x → x + d = ps.length → 0 ≤ acc → acc ≤ x * 1099513724929 → es.length + d + 1 < k →
    cert_claim_gap.l0 k acc ps ps.length x a b es qs ys zs = some (if clsum ys zs = (acc + worthP es (ps.drop x.toNat), true) then 0 else 182) := by
  induction d with
  | zero =>
    intro k acc x h0 h1 ha hb hk
    obtain ⟨k, rfl⟩ : ∃ m, k = m + 1 := ⟨k - 1, by omega⟩
    simp only [cert_claim_gap.l0]
    rw [if_neg (by omega), hs, List.drop_eq_nil_of_le (by omega)]
    simp only [Option.bind_some, worthP, Int.add_zero]
    rcases hc : clsum ys zs with ⟨n, t⟩
    cases t <;> simp
    by_cases e : n = acc <;> simp [e]
  | succ d ih =>
    intro k acc x h0 h1 ha hb hk
    obtain ⟨k, rfl⟩ : ∃ m, k = m + 1 := ⟨k - 1, by omega⟩
    simp only [cert_claim_gap.l0]
    have hx : x < (ps.length : Int) := by omega
    rw [if_pos hx, if_pos h0, if_pos hx, weight_is hg.rise hn _ _ _ _ _ _ _ _ (by omega)]
    simp only [Option.bind_some]
    have hw := wt_bound hg (rd_T50 ps x).f0 (rd_T50 ps x).f1
    have e1 : wrap64 (acc + wt es (rd_T50 ps x).f0 (rd_T50 ps x).f1) = acc + wt es (rd_T50 ps x).f0 (rd_T50 ps x).f1 := by unfold wrap64; omega
    have e2 : wrap64 (x + 1) = x + 1 := by unfold wrap64; omega
    rw [e1, e2, ih k _ (x + 1) (by omega) (by omega) (by omega) (by omega) (by omega), drop_T50 ps x h0 hx]
    simp only [worthP, Int.add_assoc]
    rfl
theorem sum_is {es : List S69} {ps : List S50} {ys zs : List Int} (a b : Int) (hf : Fits es ps ys zs) (h : holdB es ys zs = true) : cert_claim_sum.f a b es ps ys zs = some (clsum ys zs) := by
  unfold cert_claim_sum.f
  rw [if_pos]
  refine ⟨?_, hf.2.2.1, hf.2.2.2.1⟩
  simp only [holdB, Bool.and_eq_true, List.all_eq_true, decide_eq_true_eq] at h
  exact h.1
theorem gap_is {R C : Int} {es : List S69} {ps : List S50} {ys zs : List Int} (hg : Good R C es) (hf : Fits es ps ys zs) (hp : pairsB es (-1) [] ps = true) (hh : holdB es ys zs = true) :
    cert_claim_gap.f (es.length + ps.length + 2) R C es ps ys zs = some (gapC es ps ys zs) := by
  have hl : (ps.length : Int) ≤ 64 := by have := pairs_few hg ps (-1) [] (by omega) (by omega) hp; omega
  have := gap_steps hg hf.1 R C ps ps ys zs (by omega) (sum_is R C hf hh) ps.length (es.length + ps.length + 2) 0 0 (by omega) (by omega) (by omega) (by omega) (by omega)
  rw [cert_claim_gap.f, this]
  simp [gapC]
/-- what a row of looks finds -/
def firstOf : List Int → Int
  | [] => 0
  | r :: rs => if r = 0 then firstOf rs else r

theorem firstOf_at (rs : List Int) (k : Nat) (hk : k < rs.length) (h : ∀ j, j < k → rs.getD j 0 = 0) (h0 : rs.getD k 0 ≠ 0) : firstOf rs = rs.getD k 0 := by
  induction k generalizing rs with
  | zero =>
    cases rs with
    | nil => simp at hk
    | cons r rs => simp at h0; simp [firstOf, h0]
  | succ k ih =>
    cases rs with
    | nil => simp at hk
    | cons r rs =>
      have h1 := h 0 (by omega)
      simp at h1
      simp only [firstOf, h1, if_true]
      rw [ih rs (by simpa using hk) (fun j hj => by simpa using h (j + 1) (by omega)) (by simpa using h0)]
      simp

theorem firstOf_none (rs : List Int) (h : ∀ j, j < rs.length → rs.getD j 0 = 0) : firstOf rs = 0 := by
  induction rs with
  | nil => rfl
  | cons r rs ih =>
    have h1 := h 0 (by simp)
    simp at h1
    simp only [firstOf, h1, if_true]
    exact ih (fun j hj => by simpa using h (j + 1) (by simpa using hj))


set_option maxHeartbeats 8000000 in
set_option maxRecDepth 100000 in
theorem first_calls (fids : List Nat) (rs : List Int) (c : Value) (b : Nat) (w : World) (hl : fids.length = rs.length) (hm : fids.length ≤ 100)
    (hc : ∀ i, i < fids.length → w.cell? ⟨b, i, none⟩ = some (.func (.func (fids.getD i 0)) #[c] #[]))
    (hf : ∀ i, i < fids.length → ∀ w', (callFunc (fids.getD i 0) #[c]).run Try.prog w' = .ok (.enter (fids.getD i 0) #[c]) w')
    (hcall : ∀ i, i < fids.length → (∀ j, j < i → rs.getD j 0 = 0) → ∀ w', Below w.heap.size w w' → Calls Try.prog (fids.getD i 0) #[c] w' fun e w'' => e = .returned (.int .i64 (rs.getD i 0)) ∧ Below w'.heap.size w' w'') :
    Calls Try.prog 30 #[.slice (some ⟨b, 0, none⟩) fids.length fids.length] w fun e w' => e = .returned (.int .i64 (firstOf rs)) ∧ Below w.heap.size w w' := by
  have Hl := Aside0.mk hl; clear hl
  have Hcall := Aside0.mk hcall; clear hcall
  have Hf := Aside0.mk hf; clear hf
  have Hc := Aside0.mk hc; clear hc
  go_enter Try.func30, Try.ntmps30
  go_wp2
  go_loopw [8] (fun i wr => ∃ k : Nat, k ≤ fids.length ∧ i = .int .i64 k ∧ Aside0 (∀ j, j < k → rs.getD j 0 = 0) ∧ Aside0 (Below w.heap.size w wr)) (fun i _ => fids.length - (intOf i).toNat)
  case atStart => exact ⟨0, Nat.zero_le _, rfl, ⟨fun j hj => by omega⟩, ⟨Below.refl _ _⟩⟩
  case round =>
    obtain ⟨k, hk, rfl, Hz, HB⟩ := hrel
    by_cases hlt : k < fids.length
    · have hcell : wr.cell? ⟨b, k, none⟩ = some (.func (.func (fids.getD k 0)) #[c] #[]) := pw_cell_below HB.out (Hc.out k hlt)
      have hcf := Hf.out k hlt
      have HC := Aside0.mk (Hcall.out k hlt Hz.out wr HB.out)
      generalize fids.getD k 0 = fk at hcell hcf HC
      obtain ⟨r, hr⟩ : ∃ r, r = rs.getD k 0 := ⟨_, rfl⟩
      rw [← hr] at HC
      have Hr := Aside0.mk hr; clear hr
      by_cases h0 : r = 0
      · subst h0
        go_wp2_with (refine (HC.out).mono ?_; rintro e w' ⟨rfl, hb⟩; have HB' := Aside0.mk hb; clear hb)
        go_roundw
        case rel => exact ⟨k + 1, by omega, by go_num, ⟨fun j hj => by rcases Nat.lt_succ_iff_lt_or_eq.1 hj with h | h; exact Hz.out j h; subst h; exact Hr.out.symm⟩, ⟨below_then HB.out HB.out.size HB'.out⟩⟩
        case measure => simp [intOf]; omega
      · have h1 : (r == 0) = false := beq_eq_false_iff_ne.2 h0
        have h2 : (r != 0) = true := bne_iff_ne.2 h0
        go_wp2_with (refine (HC.out).mono ?_; rintro e w' ⟨rfl, hb⟩; have HB' := Aside0.mk hb; clear hb)
        go_ret
        have hr := Hr.out
        exact ⟨ret_i64 (by rw [hr, firstOf_at rs k (by have := Hl.out; omega) Hz.out (by rw [← hr]; exact h0)]), below_then HB.out HB.out.size HB'.out⟩
    · go_wp2
      go_ret
      exact ⟨ret_i64 (by rw [firstOf_none rs (fun j hj => Hz.out j (by have := Hl.out; omega))]), HB.out⟩
def looksC (R C : Int) (es : List S69) (ps : List S50) (ys zs : List Int) : List Int := [weighC R C es, pairsC es ps, lengthsC R C ys zs, dualC es ys zs, gapC es ps ys zs]
theorem lengthsC_zero {R C : Int} {ys zs : List Int} (h : lengthsC R C ys zs = 0) : (ys.length : Int) = R ∧ (zs.length : Int) = C := by
  unfold lengthsC at h
  split at h
  · split at h
    · exact ⟨‹_›, ‹_›⟩
    · cases h
  · cases h
set_option maxHeartbeats 8000000 in
set_option maxRecDepth 100000 in
theorem look_graph (a0_0 : Int) (a0_1 : Int) (A0_2 : Option Addr) (c0_2 : Nat) (l0_2 : List (S69)) (A0_3 : Option Addr) (c0_3 : Nat) (l0_3 : List (S50)) (A0_4 : Option Addr) (c0_4 : Nat) (l0_4 : List Int) (A0_5 : Option Addr) (c0_5 : Nat) (l0_5 : List Int) (w : World)
    (hr0_2 : Kd.C k69 w A0_2 l0_2.length l0_2) (hc0_2 : l0_2.length ≤ c0_2) (hr0_3 : Kd.C k50 w A0_3 l0_3.length l0_3) (hc0_3 : l0_3.length ≤ c0_3) (hr0_4 : Kd.C (Kd.int .i64) w A0_4 l0_4.length l0_4) (hc0_4 : l0_4.length ≤ c0_4) (hr0_5 : Kd.C (Kd.int .i64) w A0_5 l0_5.length l0_5) (hc0_5 : l0_5.length ≤ c0_5)
    (hf : Fits l0_2 l0_3 l0_4 l0_5) :
    (Calls Try.prog 31 #[.agg (clm a0_0 a0_1 A0_2 c0_2 l0_2 A0_3 c0_3 l0_3 A0_4 c0_4 l0_4 A0_5 c0_5 l0_5)] w fun e w' => e = .returned (.int .i64 (weighC a0_0 a0_1 l0_2)) ∧ Below w.heap.size w w') ∧
    (weighC a0_0 a0_1 l0_2 = 0 → Calls Try.prog 32 #[.agg (clm a0_0 a0_1 A0_2 c0_2 l0_2 A0_3 c0_3 l0_3 A0_4 c0_4 l0_4 A0_5 c0_5 l0_5)] w fun e w' => e = .returned (.int .i64 (pairsC l0_2 l0_3)) ∧ Below w.heap.size w w') ∧
    (Calls Try.prog 33 #[.agg (clm a0_0 a0_1 A0_2 c0_2 l0_2 A0_3 c0_3 l0_3 A0_4 c0_4 l0_4 A0_5 c0_5 l0_5)] w fun e w' => e = .returned (.int .i64 (lengthsC a0_0 a0_1 l0_4 l0_5)) ∧ Below w.heap.size w w') ∧
    (weighC a0_0 a0_1 l0_2 = 0 → lengthsC a0_0 a0_1 l0_4 l0_5 = 0 → Calls Try.prog 34 #[.agg (clm a0_0 a0_1 A0_2 c0_2 l0_2 A0_3 c0_3 l0_3 A0_4 c0_4 l0_4 A0_5 c0_5 l0_5)] w fun e w' => e = .returned (.int .i64 (dualC l0_2 l0_4 l0_5)) ∧ Below w.heap.size w w') ∧
    (weighC a0_0 a0_1 l0_2 = 0 → pairsC l0_2 l0_3 = 0 → dualC l0_2 l0_4 l0_5 = 0 → Calls Try.prog 35 #[.agg (clm a0_0 a0_1 A0_2 c0_2 l0_2 A0_3 c0_3 l0_3 A0_4 c0_4 l0_4 A0_5 c0_5 l0_5)] w fun e w' => e = .returned (.int .i64 (gapC l0_2 l0_3 l0_4 l0_5)) ∧ Below w.heap.size w w') := by
  refine ⟨?_, ?_, ?_, ?_, ?_⟩
  · exact cert_claim_graph.calls _ _ _ _ _ _ _ _ _ _ _ _ _ _ _ w hr0_2 hc0_2 hr0_3 hc0_3 hr0_4 hc0_4 hr0_5 hc0_5 (by simp [cert_claim_graph.f, weigh_Check.f, hf.1])
  · intro hg
    have hg := good_of hg
    exact pairs_calls _ _ _ _ _ _ _ _ _ _ _ _ _ _ w hr0_2 hc0_2 hr0_3 hc0_3 hr0_4 hc0_4 hr0_5 hc0_5 hg.rise (fun e he => by have := hg.inn e he; have := hg.c1; omega) hf.1 hf.2.1
  · exact cert_claim_lengths.calls _ _ _ _ _ _ _ _ _ _ _ _ _ _ _ w hr0_2 hc0_2 hr0_3 hc0_3 hr0_4 hc0_4 hr0_5 hc0_5 (by unfold cert_claim_lengths.f lengthsC; split <;> (try split) <;> rfl)
  · intro hg hl
    have hg := good_of hg
    obtain ⟨e1, e2⟩ := lengthsC_zero hl
    exact dual_calls _ _ _ _ _ _ _ _ _ _ _ _ _ _ w hr0_2 hr0_4 hr0_5 (fun e he => by have := hg.inn e he; omega) hf.1 hf.2.2.1 hf.2.2.2.1 hf.2.2.2.2
  · intro hg hp hd
    have hg := good_of hg
    have hp : pairsB l0_2 (-1) [] l0_3 = true := by unfold pairsC at hp; split at hp; assumption; cases hp
    have hd : holdB l0_2 l0_4 l0_5 = true := by unfold dualC at hd; split at hd; assumption; cases hd
    exact cert_claim_gap.calls _ _ _ _ _ _ _ _ _ _ _ _ _ _ _ _ w hr0_2 hc0_2 hr0_3 hc0_3 hr0_4 hc0_4 hr0_5 hc0_5 (gap_is hg hf hp hd)
theorem cf31 (c : Value) (w : World) : (callFunc 31 #[c]).run Try.prog w = .ok (.enter 31 #[c]) w := by kernel_rfl
theorem cf32 (c : Value) (w : World) : (callFunc 32 #[c]).run Try.prog w = .ok (.enter 32 #[c]) w := by kernel_rfl
theorem cf33 (c : Value) (w : World) : (callFunc 33 #[c]).run Try.prog w = .ok (.enter 33 #[c]) w := by kernel_rfl
theorem cf34 (c : Value) (w : World) : (callFunc 34 #[c]).run Try.prog w = .ok (.enter 34 #[c]) w := by kernel_rfl
theorem cf35 (c : Value) (w : World) : (callFunc 35 #[c]).run Try.prog w = .ok (.enter 35 #[c]) w := by kernel_rfl

theorem blk_new3 (w : World) (o1 o2 o3 o4 : Obj) : ((((w.alloc o1).alloc o2).alloc o3).alloc o4).heap[w.heap.size + 1 + 1 + 1]? = some o4 := by
  have := blk_new (((w.alloc o1).alloc o2).alloc o3) o4
  rwa [World.size_alloc, World.size_alloc, World.size_alloc] at this
theorem below4 (w : World) (o1 o2 o3 o4 : Obj) : Below w.heap.size w ((((w.alloc o1).alloc o2).alloc o3).alloc o4) := below_alloc (below_alloc (below_alloc (below_alloc (Below.refl _ _) _) _) _) _
theorem all_lt5 {P : Nat → Prop} (h0 : P 0) (h1 : P 1) (h2 : P 2) (h3 : P 3) (h4 : P 4) : ∀ i, i < 5 → P i := fun i hi => by
  match i, hi with
  | 0, _ => exact h0
  | 1, _ => exact h1
  | 2, _ => exact h2
  | 3, _ => exact h3
  | 4, _ => exact h4
def cert_Check.f (R C : Int) (es : List S69) (ps : List S50) (ys zs : List Int) : Option Int := if Fits es ps ys zs then some (firstOf (looksC R C es ps ys zs)) else none
set_option maxHeartbeats 8000000 in
set_option maxRecDepth 100000 in
theorem cert_Check.calls (a0_0 : Int) (a0_1 : Int) (A0_2 : Option Addr) (c0_2 : Nat) (l0_2 : List (S69)) (A1_0 : Option Addr) (c1_0 : Nat) (l1_0 : List (S50)) (A1_1 : Option Addr) (c1_1 : Nat) (l1_1 : List Int) (A1_2 : Option Addr) (c1_2 : Nat) (l1_2 : List Int) (r : Int) (w : World)
    (hr0_2 : Kd.C k69 w A0_2 l0_2.length l0_2) (hc0_2 : l0_2.length ≤ c0_2) (hr1_0 : Kd.C k50 w A1_0 l1_0.length l1_0) (hc1_0 : l1_0.length ≤ c1_0) (hr1_1 : Kd.C (Kd.int .i64) w A1_1 l1_1.length l1_1) (hc1_1 : l1_1.length ≤ c1_1) (hr1_2 : Kd.C (Kd.int .i64) w A1_2 l1_2.length l1_2) (hc1_2 : l1_2.length ≤ c1_2)
    (h : cert_Check.f a0_0 a0_1 l0_2 l1_0 l1_1 l1_2 = some r) :
    Calls Try.prog 13 #[.agg #[.int .i64 a0_0, .int .i64 a0_1, .slice A0_2 l0_2.length c0_2], .agg #[.slice A1_0 l1_0.length c1_0, .slice A1_1 l1_1.length c1_1, .slice A1_2 l1_2.length c1_2]] w fun e w' => e = .returned (.int .i64 r) ∧ Below w.heap.size w w' := by
  unfold cert_Check.f at h
  split at h
  case isFalse => cases h
  case isTrue hf =>
  have H := Aside0.mk (Option.some.inj h)
  have HL : Aside0 (∀ w', Below w.heap.size w w' → _) := ⟨fun w' hb => look_graph a0_0 a0_1 A0_2 c0_2 l0_2 A1_0 c1_0 l1_0 A1_1 c1_1 l1_1 A1_2 c1_2 l1_2 w' (Kd.C_below hr0_2 hb) hc0_2 (Kd.C_below hr1_0 hb) hc1_0 (Kd.C_below hr1_1 hb) hc1_1 (Kd.C_below hr1_2 hb) hc1_2 hf⟩
  clear h hr0_2 hc0_2 hr1_0 hc1_0 hr1_1 hc1_1 hr1_2 hc1_2 hf
  go_enter Try.func13, Try.ntmps13
  go_wp2_with fail
  have hB := below4 w (.cells #[.int .i64 a0_0, .int .i64 a0_1, .slice A0_2 l0_2.length c0_2] 24) (.cells #[.slice A1_0 l1_0.length c1_0, .slice A1_1 l1_1.length c1_1, .slice A1_2 l1_2.length c1_2] 28) (.cells (clm a0_0 a0_1 A0_2 c0_2 l0_2 A1_0 c1_0 l1_0 A1_1 c1_1 l1_1 A1_2 c1_2 l1_2) 55)
    (.cells #[.func (.func 31) #[.agg (clm a0_0 a0_1 A0_2 c0_2 l0_2 A1_0 c1_0 l1_0 A1_1 c1_1 l1_1 A1_2 c1_2 l1_2)] #[], .func (.func 32) #[.agg (clm a0_0 a0_1 A0_2 c0_2 l0_2 A1_0 c1_0 l1_0 A1_1 c1_1 l1_1 A1_2 c1_2 l1_2)] #[], .func (.func 33) #[.agg (clm a0_0 a0_1 A0_2 c0_2 l0_2 A1_0 c1_0 l1_0 A1_1 c1_1 l1_1 A1_2 c1_2 l1_2)] #[], .func (.func 34) #[.agg (clm a0_0 a0_1 A0_2 c0_2 l0_2 A1_0 c1_0 l1_0 A1_1 c1_1 l1_1 A1_2 c1_2 l1_2)] #[], .func (.func 35) #[.agg (clm a0_0 a0_1 A0_2 c0_2 l0_2 A1_0 c1_0 l1_0 A1_1 c1_1 l1_1 A1_2 c1_2 l1_2)] #[]] 57)
  have HB := Aside0.mk hB
  clear hB
  have hn := blk_new3 w (.cells #[.int .i64 a0_0, .int .i64 a0_1, .slice A0_2 l0_2.length c0_2] 24) (.cells #[.slice A1_0 l1_0.length c1_0, .slice A1_1 l1_1.length c1_1, .slice A1_2 l1_2.length c1_2] 28) (.cells (clm a0_0 a0_1 A0_2 c0_2 l0_2 A1_0 c1_0 l1_0 A1_1 c1_1 l1_1 A1_2 c1_2 l1_2) 55)
    (.cells #[.func (.func 31) #[.agg (clm a0_0 a0_1 A0_2 c0_2 l0_2 A1_0 c1_0 l1_0 A1_1 c1_1 l1_1 A1_2 c1_2 l1_2)] #[], .func (.func 32) #[.agg (clm a0_0 a0_1 A0_2 c0_2 l0_2 A1_0 c1_0 l1_0 A1_1 c1_1 l1_1 A1_2 c1_2 l1_2)] #[], .func (.func 33) #[.agg (clm a0_0 a0_1 A0_2 c0_2 l0_2 A1_0 c1_0 l1_0 A1_1 c1_1 l1_1 A1_2 c1_2 l1_2)] #[], .func (.func 34) #[.agg (clm a0_0 a0_1 A0_2 c0_2 l0_2 A1_0 c1_0 l1_0 A1_1 c1_1 l1_1 A1_2 c1_2 l1_2)] #[], .func (.func 35) #[.agg (clm a0_0 a0_1 A0_2 c0_2 l0_2 A1_0 c1_0 l1_0 A1_1 c1_1 l1_1 A1_2 c1_2 l1_2)] #[]] 57)
  have HN := Aside0.mk hn
  clear hn
  refine (first_calls [31, 32, 33, 34, 35] (looksC a0_0 a0_1 l0_2 l1_0 l1_1 l1_2) (.agg (clm a0_0 a0_1 A0_2 c0_2 l0_2 A1_0 c1_0 l1_0 A1_1 c1_1 l1_1 A1_2 c1_2 l1_2)) (w.heap.size + 1 + 1 + 1) _ rfl (by decide)
    (all_lt5 ((blk_cell HN.out 0).trans rfl) ((blk_cell HN.out 1).trans rfl) ((blk_cell HN.out 2).trans rfl) ((blk_cell HN.out 3).trans rfl) ((blk_cell HN.out 4).trans rfl))
    (all_lt5 (fun w' => cf31 _ w') (fun w' => cf32 _ w') (fun w' => cf33 _ w') (fun w' => cf34 _ w') (fun w' => cf35 _ w'))
    (all_lt5 (fun _ w' hb => (HL.out w' (below_then HB.out HB.out.size hb)).1) (fun hz w' hb => (HL.out w' (below_then HB.out HB.out.size hb)).2.1 (hz 0 (by decide)))
      (fun _ w' hb => (HL.out w' (below_then HB.out HB.out.size hb)).2.2.1) (fun hz w' hb => (HL.out w' (below_then HB.out HB.out.size hb)).2.2.2.1 (hz 0 (by decide)) (hz 2 (by decide)))
      (fun hz w' hb => (HL.out w' (below_then HB.out HB.out.size hb)).2.2.2.2 (hz 0 (by decide)) (hz 1 (by decide)) (hz 3 (by decide))))).mono ?_
  rintro e w1 ⟨rfl, hb⟩
  have HB1 := Aside0.mk (below_then HB.out HB.out.size hb)
  clear hb
  go_wp2
  go_ret
  exact ⟨ret_i64 H.out, HB1.out⟩

end Go.Proofs.Ytmdidgdcdlodlaa.Q
