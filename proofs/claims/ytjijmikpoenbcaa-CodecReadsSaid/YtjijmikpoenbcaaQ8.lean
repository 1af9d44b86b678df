/- What functions of the program answer, each by a Lean function and the proof of its call; written by this session's program gp.py and by hand. Conditions: those that stand in each theorem. -/
import Derived.Test.YtjijmikpoenbcaaCodecS
import Derived.Test.YtjijmikpoenbcaaQ0
import Derived.Test.YtjijmikpoenbcaaQ1
import Derived.Test.YtjijmikpoenbcaaQ2
import Derived.Test.YtjijmikpoenbcaaQ3
import Derived.Test.YtjijmikpoenbcaaQ7
namespace Go.Proofs.Ytjijmikpoenbcaa.Q
open Go.RowKit Go.Proofs.YtjijmikpoenbcaaW.PrintWords Go.Proofs.YtjijmikpoenbcaaW.PrintLast Go.Proofs.YtjijmikpoenbcaaW.PrintMore
attribute [local go_sem] max2_int min2_int max_two min_two max_three min_three max_four min_four   -- for this text's walks alone
set_option linter.unusedVariables false
set_option linter.unusedSimpArgs false

/-! ### cabstandlaw02_CodecSums: function 3 -/
theorem own_int {e : Nat} {w : World} {base : Nat} {ok : Nat → Prop} {v : Value} {xs : List Int} (h : (Kd.int .u8).R e w base ok v xs) : w.ownsRow base e 1 v xs.length (nums .u8 xs) := Kd.own_of_R (enc := Value.int .u8) (h1 := fun _ => rfl) h
/-- bytes in memory of their own at block g, with two marks behind them -/
structure Lent (w : World) (base g : Nat) (c : Nat) (l : List Int) : Prop where
  own : w.ownsRow base 5 1 (.slice (some ⟨g, 0, none⟩) (l.length + 2) c) (l.length + 2) (nums .u8 (l ++ [171, 205]))
  ge : base ≤ g
set_option maxHeartbeats 8000000 in
set_option maxRecDepth 100000 in
theorem lent_calls (A0 : Option Addr) (c0 : Nat) (l0 : List Int) (w : World) (hr0 : Kd.C (Kd.int .u8) w A0 l0.length l0) (hlen : l0.length + 2 < 140737488355328) :
    Calls Try.prog 13 #[.slice A0 l0.length c0] w fun e w' => ∃ g c, e = .returned (.slice (some ⟨g, 0, none⟩) l0.length c) ∧ Lent w' w.heap.size g c l0 ∧ Below w.heap.size w w' := by
  have HR0 := Aside0.mk hr0
  have LMc2 := Aside0.mk hlen
  clear hr0 hlen
  have HB := Aside0.mk (Below.refl w.heap.size w)
  go_enter Try.func13, Try.ntmps13
  go_wp2_with (first | ((with_reducible refine gate_builtin (b := .append) (xs := #[.tmp 4, .tmp 5]) rfl ?_); at_builtin; refine Kd.R_append_rows (Kd.int .u8) (w0 := w) w.heap.size rfl (.tmp 4) (.tmp 5) 22 5 (.int .u8 0) 1 rfl Try.underlying22 info5 rfl (by decide) (by omega) (.slice none 0 0) ([] : List Int) l0 _ _ _ (fun _ => True) (fun _ => False) rfl rfl ?aO ?aR (fun _ _ h => h) (fun _ h => h.elim) ?aF ?aB ?aS ?aL ?_; (case aR => repeat (first | exact HR0.out | (with_reducible refine Kd.C_alloc ?_ _) | (with_reducible refine Kd.C_drewN ?_ _) | (with_reducible refine Kd.C_drew ?_))); (case aB => exact (by repeat (first | (with_reducible first | exact HB.out | apply below_alloc | apply pw_below_drewN | apply below_drew1) | exact HB.out))); (case aF => exact (fun _ _ => trivial)); (case aO => exact ((Kd.R_nil _ _ _ _ (fun _ => True)))); (case aS => exact (below_size (by repeat (first | (with_reducible first | exact HB.out | apply below_alloc | apply pw_below_drewN | apply below_drew1) | exact HB.out)))); (case aL => have := LMc2.out; simp; omega); intro v156 w6 ho hb hg hat; rw [List.nil_append] at ho; have n0_ := Aside0.mk (hb); have n1_ := Aside0.mk (ho); clear HB; have HB := n0_; have HO157 := n1_; clear n0_ n1_; clear ho hb hg hat) | ((with_reducible refine gate_dst (N := 8) rfl ?_); refine Kd.R_lit (Kd.int .u8) _ 5 ?hg (N := 8) ?hd (xs := ([171, 205] : List Int)) (inner := [.int .u8 171, .int .u8 205]) (ok := fun _ => True) (okp := fun _ => True) ?hr ?hp (fun _ hk => hk) trivial (Below.refl _ _) (Nat.le_refl _) (by simp) ?_; (case hd => rfl); (case hg => rfl); (case hr => first | (go_simp; done) | (go_simp; rfl)); (case hp => exact (Reps.one (show Kd.M (Kd.int .u8) _ _ _ 171 [.int .u8 171] from rfl) (Reps.one (show Kd.M (Kd.int .u8) _ _ _ 205 [.int .u8 205] from rfl) (Reps.none _ _)))); intro v159 w7 ho8 hb hg_ hnew_; clear hg_ hnew_; have n0_ := Aside0.mk (Kd.R_elder' (by (with_reducible repeat (first | apply Kd.R_alloc | apply Kd.R_drewN | apply Kd.R_drew)); exact HO157.out) (Kd.R_base ho8) hb); have n1_ := Aside0.mk (Kd.R_lower (Kd.R_new' ho8 (Kd.R_lt (by (with_reducible repeat (first | apply Kd.R_alloc | apply Kd.R_drewN | apply Kd.R_drew)); exact HO157.out))) (below_size (by repeat (first | (with_reducible first | exact HB.out | apply below_alloc | apply pw_below_drewN | apply below_drew1) | exact HB.out)))); have n2_ := Aside0.mk (below_step (by repeat (first | (with_reducible first | exact HB.out | apply below_alloc | apply pw_below_drewN | apply below_drew1) | exact HB.out)) hb); clear HO157; clear HB; have HO157 := n0_; have HO160 := n1_; have HB := n2_; clear n0_ n1_ n2_; clear hb ho8; obtain ⟨Ao10, co10, eo10⟩ := Kd.R_slice HO160.out; subst eo10) | ((with_reducible refine gate_builtin (b := .append) (xs := #[.tmp 7, .tmp 8]) rfl ?_); at_builtin; refine Kd.R_append_rows (Kd.int .u8) (w0 := w) w.heap.size rfl (.tmp 7) (.tmp 8) 22 5 (.int .u8 0) 1 rfl Try.underlying22 info5 rfl (by decide) (by omega) v156 l0 [171, 205] _ _ _ (fun k_ => some k_ ≠ (.slice Ao10 ([171, 205] : List Int).length co10 : Value).ownBlock) (fun _ => False) rfl rfl ?aO ?aR (fun _ _ h => h) (fun _ h => h.elim) ?aF ?aB ?aS ?aL ?_; (case aR => repeat (first | exact (Kd.R_reads' HO160.out).2.2 | (with_reducible refine Kd.C_alloc ?_ _) | (with_reducible refine Kd.C_drewN ?_ _) | (with_reducible refine Kd.C_drew ?_))); (case aB => exact (by repeat (first | (with_reducible first | exact HB.out | apply below_alloc | apply pw_below_drewN | apply below_drew1) | exact HB.out))); (case aF => exact (fun k_ hk => Kd.fresh' (Kd.R_lt (by (with_reducible repeat (first | apply Kd.R_alloc | apply Kd.R_drewN | apply Kd.R_drew)); exact HO160.out)) k_ hk)); (case aO => exact (by (with_reducible repeat (first | apply Kd.R_alloc | apply Kd.R_drewN | apply Kd.R_drew)); exact Kd.R_mono HO157.out (fun _ hk => hk.2))); (case aS => exact (below_size (by repeat (first | (with_reducible first | exact HB.out | apply below_alloc | apply pw_below_drewN | apply below_drew1) | exact HB.out)))); (case aL => have := LMc2.out; simp; omega); intro v162 w9 ho hb hg hat; have n1_ := Aside0.mk (hb); have n2_ := Aside0.mk (own_int ho); clear HO160; clear HB; clear HO157; have HB := n1_; have HO163 := n2_; clear n1_ n2_; clear ho hb hg hat; obtain ⟨gl, cl, eo11, hcl, hgl⟩ : ∃ gl cl, v162 = .slice (some ⟨gl, 0, none⟩) (l0.length + 2) cl ∧ l0.length ≤ cl ∧ w.heap.size ≤ gl := (by rcases HO163.out.2 with ⟨_, q⟩ | ⟨g_, cap_, cur_, q1, q2, _, q3, _⟩; (simp at q); exact ⟨g_, cap_, by rw [q1]; simp, by simp at q3; omega, q2⟩); subst eo11; have HGL := Aside0.mk hgl; clear hgl))
  go_ret
  refine ⟨gl, cl, rfl, ⟨by simpa using HO163.out, HGL.out⟩, HB.out⟩
theorem same_l0 (x y : List Int) (hl : x.length = y.length) (hm : x.length ≤ 9223372036854775807) : ∀ m j, j + m = x.length → cabstandlaw02_same.l0 (m + 1) x y j = some (decide (x.drop j = y.drop j)) := by
  intro m
  induction m with
  | zero =>
    intro j hj
    rw [cabstandlaw02_same.l0, if_neg (by omega), List.drop_eq_nil_of_le (by omega), List.drop_eq_nil_of_le (by omega)]
    rfl
  | succ m ih =>
    intro j hj
    rw [cabstandlaw02_same.l0, if_pos (by omega), if_pos (by omega), if_pos (by omega)]
    have hx : j < x.length := by omega
    have hy : j < y.length := by omega
    have hcons : (x.drop j = y.drop j) ↔ (x[j] = y[j] ∧ x.drop (j + 1) = y.drop (j + 1)) := by rw [List.drop_eq_getElem_cons hx, List.drop_eq_getElem_cons hy, List.cons.injEq]
    have ex : rd x j = x[j] := by simp [rd, List.getD, hx]
    have ey : rd y j = y[j] := by simp [rd, List.getD, hy]
    rw [ex, ey]
    split
    · rename_i he
      rw [show wrap64 ((j : Int) + 1) = ((j + 1 : Nat) : Int) by unfold wrap64; omega, ih (j + 1) (by omega)]
      rw [decide_eq_decide.2 (show x.drop (j + 1) = y.drop (j + 1) ↔ x.drop j = y.drop j by rw [hcons]; simp [he])]
    · rename_i he
      rw [decide_eq_false (fun q => he (hcons.1 q).1)]
theorem same_f (x y : List Int) (hm : x.length ≤ 9223372036854775807) : cabstandlaw02_same.f (x.length + 1) x y = some (decide (x = y)) := by
  unfold cabstandlaw02_same.f
  split
  · rename_i h
    have := same_l0 x y (by omega) hm x.length 0 (by omega)
    simpa using this
  · rename_i h
    have : ¬ x = y := fun e => h (by rw [e])
    simp [this]
theorem same_calls (A0 : Option Addr) (c0 : Nat) (l0 : List Int) (A1 : Option Addr) (c1 : Nat) (l1 : List Int) (w : World) (hr0 : Kd.C (Kd.int .u8) w A0 l0.length l0) (hc0 : l0.length ≤ c0) (hr1 : Kd.C (Kd.int .u8) w A1 l1.length l1) (hc1 : l1.length ≤ c1) :
    Calls Try.prog 30 #[.slice A0 l0.length c0, .slice A1 l1.length c1] w fun e w' => e = .returned (.bool (decide (l0 = l1))) ∧ Below w.heap.size w w' := by
  refine (cabstandlaw02_same.calls (l0.length + 1) A0 c0 l0 A1 c1 l1 _ w hr0 hc0 hr1 hc1 (same_f l0 l1 hr0.2.1)).mono ?_
  rintro e w' ⟨rfl, n, rfl⟩
  exact ⟨rfl, pw_below_drewN (Below.refl _ _) _⟩
theorem Lent.reads {w : World} {base g c : Nat} {l : List Int} (h : Lent w base g c l) : Kd.C (Kd.int .u8) w (some ⟨g, 0, none⟩) l.length l := by
  have h1 := own_take h.own (m := l.length) (by omega)
  rw [show (nums .u8 (l ++ [171, 205])).take (l.length * 1) = nums .u8 l by simp [nums]] at h1
  obtain ⟨A, c', e, _, hC⟩ := Go.Proofs.Ytjijmikpoenbcaa.Codec.own_C h1
  cases e
  exact hC
theorem Lent.le {w : World} {base g c : Nat} {l : List Int} (h : Lent w base g c l) : l.length + 2 ≤ c := own_le h.own
set_option maxHeartbeats 8000000 in
set_option maxRecDepth 100000 in
theorem kept_calls (base g c : Nat) (l : List Int) (A1 : Option Addr) (c1 : Nat) (w : World) (hl : Lent w base g c l) (hr1 : Kd.C (Kd.int .u8) w A1 l.length l) (hc1 : l.length ≤ c1) (hlen : l.length + 2 < 140737488355328) :
    Calls Try.prog 16 #[.slice (some ⟨g, 0, none⟩) l.length c, .slice A1 l.length c1] w fun e w' => e = .returned (.bool true) ∧ Below w.heap.size w w' := by
  have HL := Aside0.mk hl
  have HR1 := Aside0.mk hr1
  have HC1 := Aside0.mk hc1
  have h0 : w.cell? ⟨g, l.length, none⟩ = some (.int .u8 171) := by
    have := own_at hl.own l.length (by omega) (by omega)
    have := this.1
    simpa [add_plain, rd, List.getD] using this
  have h1 : w.cell? ⟨g, l.length + 1, none⟩ = some (.int .u8 205) := by
    have := own_at hl.own ((l.length + 1 : Nat) : Int) (by omega) (by omega)
    have := this.1
    simpa [add_plain, rd, List.getD] using this
  have hle : l.length + 2 ≤ c := hl.le
  have hle2 : (l.length : Int) + 2 ≤ (c : Int) := by omega
  have hle3 : (l.length : Int) + 2 ≤ 9223372036854775807 := by omega
  clear hl hr1 hc1
  go_enter Try.func16, Try.ntmps16
  go_wp2_with fail
  refine (same_calls (some ⟨g, 0, none⟩) c l A1 c1 l w HL.out.reads (by have := HL.out.le; omega) HR1.out HC1.out).mono ?_
  rintro e w1 ⟨rfl, hb⟩
  rw [show decide (l = l) = true from decide_eq_true rfl]
  have g0 : w1.cell? ⟨g, l.length, none⟩ = some (.int .u8 171) := pw_cell_below hb h0
  have g1 : w1.cell? ⟨g, l.length + 1, none⟩ = some (.int .u8 205) := pw_cell_below hb h1
  have HB := Aside0.mk hb
  clear hb h0 h1
  have hlt : ((l.length : Int) + 1 < (l.length : Int) + 2) := by omega
  go_wp2
  go_ret
  exact ⟨rfl, HB.out⟩
section
open Go.Proofs.Ytjijmikpoenbcaa.Codec
theorem refSum_l1 (x0 : List Int) (x4 : Int) (k : Nat) : ∀ (m i c : Nat), i + m = 8 → c < 4294967296 → cabstandref02_Sum.l1 (k + m + 1) x0 (c : Int) x4 (i : Int) = cabstandref02_Sum.l0 k x0 ((downs m c : Nat) : Int) (wrap64 (x4 + 1)) := by
  intro m
  induction m with
  | zero =>
    intro i c hi hc
    rw [cabstandref02_Sum.l1, if_neg (by omega)]
    rfl
  | succ m ih =>
    intro i c hi hc
    rw [cabstandref02_Sum.l1, if_pos (by omega)]
    have e1 : Int.tmod (c : Int) 2 = ((c % 2 : Nat) : Int) := by rw [Int.tmod_eq_emod_of_nonneg (by omega)]; omega
    have e2 : Int.tdiv (c : Int) 2 % 4294967296 = ((c / 2 : Nat) : Int) := by rw [Int.tdiv_eq_ediv_of_nonneg (by omega)]; omega
    have e3 : wrap64 ((i : Int) + 1) = ((i + 1 : Nat) : Int) := by unfold wrap64; omega
    have e4 : k + (m + 1) = k + m + 1 := by omega
    rw [e1, e2, e3, e4]
    have hd : downs (m + 1) c = downs m (downN c) := rfl
    rw [hd]
    split
    · rename_i h
      have hp : c % 2 = 1 := by omega
      have hx := u32_xor_nat (c / 2) 3988292384 (by omega) (by decide)
      have hx2 : Go.bits .xor .u32 ((c / 2 : Nat) : Int) 3988292384 = ((c / 2 ^^^ 3988292384 : Nat) : Int) := hx
      rw [hx2]
      have : downN c = c / 2 ^^^ 3988292384 := by unfold downN; rw [if_pos hp]
      rw [← this]
      exact ih (i + 1) _ (by omega) (downN_lt hc)
    · rename_i h
      have hp : ¬ c % 2 = 1 := by omega
      have : downN c = c / 2 := by unfold downN; rw [if_neg hp]
      rw [← this]
      exact ih (i + 1) _ (by omega) (downN_lt hc)
theorem refSum_l0 (x0 : List Int) (hb : IsBytes x0) (hl : x0.length ≤ 140737488355328) : ∀ (m j c : Nat), j + m = x0.length → c < 4294967296 → c = sumFrom 4294967295 (x0.take j) → cabstandref02_Sum.l0 (10 * m + 1) x0 (c : Int) (j : Int) = some ((sumN x0 : Nat) : Int) := by
  intro m
  induction m with
  | zero =>
    intro j c hj hc he
    rw [cabstandref02_Sum.l0, if_neg (by omega)]
    rw [List.take_of_length_le (by omega)] at he
    unfold sumN
    rw [← he]
    congr 1
    omega
  | succ m ih =>
    intro j c hj hc he
    rw [show 10 * (m + 1) + 1 = (10 * m + 1 + 8 + 1) + 1 by omega, cabstandref02_Sum.l0, if_pos (by omega), if_pos (by omega)]
    have hr := hb.nth j (by omega)
    have hx := u32_xor_nat c (rd x0 j).toNat hc (by omega)
    have hx2 : Go.bits .xor .u32 (c : Int) (rd x0 j % 4294967296) = ((c ^^^ (rd x0 j).toNat : Nat) : Int) := by
      rw [← hx]; congr 1; omega
    rw [hx2]
    have hxl : c ^^^ (rd x0 j).toNat < 4294967296 := Nat.xor_lt_two_pow (n := 32) hc (by omega)
    have h8 := refSum_l1 x0 (j : Int) (10 * m + 1) 8 0 _ (by omega) hxl
    have h9 : cabstandref02_Sum.l1 (10 * m + 1 + 8 + 1) x0 ((c ^^^ (rd x0 j).toNat : Nat) : Int) (j : Int) 0 = cabstandref02_Sum.l0 (10 * m + 1) x0 ((downs 8 (c ^^^ (rd x0 j).toNat) : Nat) : Int) (wrap64 ((j : Int) + 1)) := h8
    rw [h9, show wrap64 ((j : Int) + 1) = ((j + 1 : Nat) : Int) by unfold wrap64; omega]
    refine ih (j + 1) _ (by omega) (downs_lt 8 _ hxl) ?_
    rw [List.take_succ_eq_append_getElem (show j < x0.length by omega)]
    have e : x0[j] = rd x0 j := by simp [rd, List.getD, show j < x0.length by omega]
    simp only [sumFrom, List.foldl_append, List.foldl_cons, List.foldl_nil, e]
    rw [he]
    rfl
theorem refSum_calls (A0 : Option Addr) (c0 : Nat) (l0 : List Int) (hb : IsBytes l0) (hl : l0.length ≤ 140737488355328) (w : World) (hr0 : Kd.C (Kd.int .u8) w A0 l0.length l0) (hc0 : l0.length ≤ c0) :
    Calls Try.prog 15 #[.slice A0 l0.length c0] w fun e w' => e = .returned (.int .u32 ((sumN l0 : Nat) : Int)) ∧ Below w.heap.size w w' := by
  refine (cabstandref02_Sum.calls (10 * l0.length + 1) A0 c0 l0 _ w hr0 hc0 (refSum_l0 l0 hb hl l0.length 0 4294967295 (by omega) (by omega) rfl)).mono ?_
  rintro e w' ⟨rfl, n, rfl⟩
  exact ⟨rfl, pw_below_drewN (Below.refl _ _) _⟩
end
def cabstandlaw02_CodecSums.f (l0 : List Int) : Option Bool := if bytesB l0 = true ∧ l0.length + 2 < 140737488355328 then some true else none
set_option maxHeartbeats 8000000 in
set_option maxRecDepth 100000 in
theorem cabstandlaw02_CodecSums.calls (A0 : Option Addr) (c0 : Nat) (l0 : List Int) (r : Bool) (w : World) (hr0 : Kd.C (Kd.int .u8) w A0 l0.length l0) (hc0 : l0.length ≤ c0) (h : cabstandlaw02_CodecSums.f l0 = some r) :
    Calls Try.prog 3 #[.slice A0 l0.length c0] w fun e w' => e = .returned (.bool r) ∧ Below w.heap.size w w' := by
  obtain ⟨hb, hlen, hrt⟩ : Go.Proofs.Ytjijmikpoenbcaa.Codec.IsBytes l0 ∧ l0.length + 2 < 140737488355328 ∧ r = true := by
    unfold cabstandlaw02_CodecSums.f at h
    split at h
    · rename_i q
      exact ⟨(bytesB_iff l0).1 q.1, q.2, (Option.some.inj h).symm⟩
    · cases h
  subst hrt
  have HR0 := Aside0.mk hr0
  have HC0 := Aside0.mk hc0
  have HBY := Aside0.mk hb
  have HLEN := Aside0.mk hlen
  clear hr0 hc0 hb hlen h
  go_enter Try.func3, Try.ntmps3
  go_wp2_with fail
  refine (lent_calls A0 c0 l0 w HR0.out HLEN.out).mono ?_
  rintro e w1 ⟨g, c, rfl, hl, hb⟩
  have HL := Aside0.mk hl
  have HB1 := Aside0.mk hb
  clear hl hb
  go_wp2_with fail
  refine (Go.Proofs.Ytjijmikpoenbcaa.Codec.Sum_calls (some ⟨g, 0, none⟩) c l0 HBY.out w1 HL.out.reads).mono ?_
  rintro e w2 ⟨rfl, hb⟩
  have HL2 : Aside0 (Lent w2 w.heap.size g c l0) := ⟨⟨pw_own_below HL.out.own hb, HL.out.ge⟩⟩
  have HB2 : Aside0 (Below w.heap.size w w2) := ⟨below_then HB1.out HB1.out.size hb⟩
  clear hb HL HB1
  go_wp2_with fail
  refine (refSum_calls A0 c0 l0 HBY.out (by have := HLEN.out; omega) w2 (Kd.C_below HR0.out HB2.out) HC0.out).mono ?_
  rintro e w3 ⟨rfl, hb⟩
  have HL3 : Aside0 (Lent w3 w.heap.size g c l0) := ⟨⟨pw_own_below HL2.out.own hb, HL2.out.ge⟩⟩
  have HB3 : Aside0 (Below w.heap.size w w3) := ⟨below_then HB2.out HB2.out.size hb⟩
  clear hb HL2 HB2
  generalize ((Go.Proofs.Ytjijmikpoenbcaa.Codec.sumN l0 : Nat) : Int) = sm
  go_wp2_with fail
  refine (kept_calls w.heap.size g c l0 A0 c0 w3 HL3.out (Kd.C_below HR0.out HB3.out) HC0.out HLEN.out).mono ?_
  rintro e w4 ⟨rfl, hb⟩
  have HB4 : Aside0 (Below w.heap.size w w4) := ⟨below_then HB3.out HB3.out.size hb⟩
  clear hb HL3 HB3
  go_wp2_with fail
  refine (cabstandlaw02_lives.calls true w4 rfl).mono ?_
  rintro e w5 ⟨rfl, hb⟩
  have HB5 : Aside0 (Below w.heap.size w w5) := ⟨below_then HB4.out HB4.out.size hb⟩
  clear hb HB4
  go_wp2
  go_ret
  exact ⟨rfl, HB5.out⟩

end Go.Proofs.Ytjijmikpoenbcaa.Q
