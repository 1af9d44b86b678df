/- The copy that cabstandlaw01_TwinEdges makes, with the mark behind it. Written by wip/gen/marks.py out of the printed walk. -/
import Derived.Test.YtmdidgdcdlodlaaQ0
import Derived.Test.YtmdidgdcdlodlaaA2
namespace Go.Proofs.Ytmdidgdcdlodlaa.Q
open Go.RowKit Go.Proofs.YtmdidgdcdlodlaaW.PrintWords Go.Proofs.YtmdidgdcdlodlaaW.PrintLast Go.Proofs.YtmdidgdcdlodlaaW.PrintMore
attribute [local go_sem] max2_int min2_int max_two min_two max_three min_three max_four min_four   -- for this text's walks alone
set_option linter.unusedVariables false
set_option linter.unusedSimpArgs false

/-! ### cabstandlaw01_TwinEdges: function 29 -/
def cabstandlaw01_TwinEdges.l0 : Nat → List (S69) → List (S69) → Int → Option ((List (S69)))
  | 0, _, _, _ => none
  | k + 1, x0, x3, x4 => if x4 < (x0.length : Int) then (if 0 ≤ x4 then (if x4 < (x3.length : Int) then (cabstandlaw01_TwinEdges.l0 k x0 (x3.set (x4 : Int).toNat (⟨(rd_T69 x0 x4).f0, (rd_T69 x0 x4).f1, (rd_T69 x0 x4).f2⟩ : S69)) (wrap64 (x4 + 1))) else (none)) else (none)) else ((cabstandlaw01_markEdge.f 7777).bind fun bt280 => (if 0 ≤ (x0.length : Int) then (if (x0.length : Int) < (x3.length : Int) then (if (x0.length : Int) ≤ (x3.length : Int) then (some ((x3.set ((x0.length : Int) : Int).toNat (⟨bt280.1, bt280.2.1, bt280.2.2⟩ : S69)).take ((x0.length : Int) : Int).toNat)) else (none)) else (none)) else (none)))
def cabstandlaw01_TwinEdges.f (k : Nat) (l0 : List (S69)) : Option ((List (S69))) := if 0 ≤ (wrap64 ((l0.length : Int) + 1)) then (if (wrap64 ((l0.length : Int) + 1) : Int).toNat ≤ 11728124029610 then (cabstandlaw01_TwinEdges.l0 k l0 (List.replicate (wrap64 ((l0.length : Int) + 1) : Int).toNat z69) 0) else (none)) else (none)
theorem cabstandlaw01_TwinEdges.mono_l : ∀ k, (∀ y0 y1 y2, LeO (cabstandlaw01_TwinEdges.l0 k y0 y1 y2) (cabstandlaw01_TwinEdges.l0 (k + 1) y0 y1 y2))
  | 0 => fun _ _ _ r h => by simp [cabstandlaw01_TwinEdges.l0] at h
  | k + 1 => by
    have ih0 := cabstandlaw01_TwinEdges.mono_l k
    · intro y0 y1 y2
      unfold cabstandlaw01_TwinEdges.l0
      repeat' first
      | (with_reducible exact ih0 _ _ _)
      | (with_reducible exact LeO.refl _)
      | (with_reducible exact LeO.none _)
      | (with_reducible refine LeO.ite ?_ ?_)
      | (with_reducible refine LeO.bind ?_ (fun _ => ?_))
      | exact ih0 _ _ _
      | exact LeO.none _
      | refine LeO.ite ?_ ?_
      | refine LeO.bind ?_ (fun _ => ?_)
theorem cabstandlaw01_TwinEdges.mono : ∀ a0 k, LeO (cabstandlaw01_TwinEdges.f k a0) (cabstandlaw01_TwinEdges.f (k + 1) a0) := by
  intro a0 k
  have ih0 := cabstandlaw01_TwinEdges.mono_l k
  unfold cabstandlaw01_TwinEdges.f
  repeat' first
      | (with_reducible exact ih0 _ _ _)
      | (with_reducible exact LeO.refl _)
      | (with_reducible exact LeO.none _)
      | (with_reducible refine LeO.ite ?_ ?_)
      | (with_reducible refine LeO.bind ?_ (fun _ => ?_))
      | exact ih0 _ _ _
      | exact LeO.none _
      | refine LeO.ite ?_ ?_
      | refine LeO.bind ?_ (fun _ => ?_)
set_option maxHeartbeats 8000000 in
set_option maxRecDepth 100000 in
theorem cabstandlaw01_TwinEdges.marks (k : Nat) (A0 : Option Addr) (c0 : Nat) (l0 : List (S69)) (r : List (S69)) (w : World) (hr0 : Kd.C k69 w A0 l0.length l0) (hc0 : l0.length ≤ c0) (h : cabstandlaw01_TwinEdges.f k l0 = some r) :
    Calls Try.prog 29 #[.slice A0 l0.length c0] w fun e w' => ∃ (go co : Nat) (x : List (S69)) (m0 m1 m2 : Int), e = .returned (.slice (some ⟨go, 0, none⟩) l0.length co) ∧ Kd.R k69 69 w' w.heap.size (fun _ => True) (.slice (some ⟨go, 0, none⟩) x.length co) (x.set l0.length (⟨m0, m1, m2⟩ : (S69))) ∧ r = (x.set l0.length (⟨m0, m1, m2⟩ : (S69))).take l0.length ∧ l0.length < x.length ∧ cabstandlaw01_markEdge.f 7777 = some (m0, m1, m2) ∧ w.heap.size ≤ go ∧ Below w.heap.size w w' := by
  have hu69 := Try.underlying69
  have HR0 := Aside0.mk hr0
  have HC0 := Aside0.mk hc0
  clear hr0 hc0
  have HB := Aside0.mk (Below.refl w.heap.size w)
  have H : (if 0 ≤ (wrap64 ((l0.length : Int) + 1)) then (if (wrap64 ((l0.length : Int) + 1) : Int).toNat ≤ 11728124029610 then (cabstandlaw01_TwinEdges.l0 k l0 (List.replicate (wrap64 ((l0.length : Int) + 1) : Int).toNat z69) 0) else (none)) else (none)) = some r := h
  clear h
  obtain ⟨ji2, hji2⟩ : ∃ j_ : Int, (wrap64 ((l0.length : Int) + 1)) = j_ := ⟨_, rfl⟩
  replace H : (if 0 ≤ (ji2) then (if (ji2 : Int).toNat ≤ 11728124029610 then (cabstandlaw01_TwinEdges.l0 k l0 (List.replicate (ji2 : Int).toNat z69) 0) else (none)) else (none)) = some r := by first | (rw [hji2] at H; exact H) | (simp only [hji2] at H ⊢; exact H)
  have hji2w : (IntKind.i64.wrap ((l0.length : Int) + 1)) = ji2 := (i64_w _).trans hji2
  by_cases c3 : 0 ≤ (ji2)
  · rw [if_pos c3] at H
    have c3b0 := eq_true c3
    have c3b1 : decide (0 ≤ (ji2)) = true := decide_eq_true c3
    clear c3
    by_cases c4 : (ji2 : Int).toNat ≤ 11728124029610
    · rw [if_pos c4] at H
      have c4b0 := eq_true c4
      have c4b1 : decide ((ji2 : Int).toNat ≤ 11728124029610) = true := decide_eq_true c4
      clear c4
      obtain ⟨y275, hy275⟩ : ∃ y_ : List (S69), y_ = (List.replicate (ji2 : Int).toNat z69) := ⟨_, rfl⟩
      replace H : (cabstandlaw01_TwinEdges.l0 k l0 y275 0) = some r := by first | (rw [hy275]; with_reducible exact H) | (have H2_ := (Option.bind_some _ _).symm.trans H; rw [hy275]; with_reducible exact H2_) | (have H2_ := (Option.bind_some _ _).symm.trans H; with_reducible exact H2_) | with_reducible exact H | (rw [hy275]; exact H) | exact H
      have Ny275 := Aside0.mk hy275
      clear hy275
      have H' := Aside0.mk H
      clear H
      go_enter Try.func29, Try.ntmps29
      go_wp2_with (first | ((with_reducible refine gate_dst (N := 8) rfl ?_); refine Kd.R_make k69 _ 69 rfl (N := 8) rfl 22 _ _ rfl ji2 rfl rfl Try.underlying22 (.agg #[(.int .i64 0), (.int .i64 0), (.int .i64 0)]) 24 info69 rfl (by decide) (by omega) z69 (ok := fun _ => True) (okp := fun _ => True) (k69_mkM _ _ _ z69 ) (fun _ hk => hk) trivial (of_decide_eq_true (by first | (with_reducible assumption) | assumption)) (Nat.le_trans (Nat.mul_le_mul_right _ (of_decide_eq_true (by first | (with_reducible assumption) | assumption) : ji2.toNat ≤ 11728124029610)) (by omega)) (Below.refl _ _) (Nat.le_refl _) ?_; intro v276 w5 ho6 hb hg_ hnew_; clear hg_ hnew_; (first | rw [← Ny275.out] at ho6 | (simp only [Int.reduceToNat] at ho6; rw [← Ny275.out] at ho6)); have n0_ := Aside0.mk (Kd.R_lower ho6 (below_size (by repeat (first | (with_reducible first | exact HB.out | apply below_alloc | apply pw_below_drewN | apply below_drew1) | exact HB.out)))); have n1_ := Aside0.mk (below_step (by repeat (first | (with_reducible first | exact HB.out | apply below_alloc | apply pw_below_drewN | apply below_drew1) | exact HB.out)) hb); clear HB; have HO277 := n0_; have HB := n1_; clear n0_ n1_; clear hb ho6))
      go_loopg [4] k (fun kq v4 w' => ∃ (x3_1 : List (S69)) (x4_1 : Int), v4 = .int .i64 x4_1 ∧ Aside0 (cabstandlaw01_TwinEdges.l0 kq l0 x3_1 x4_1 = some r) ∧ Aside0 (kq ≤ k) ∧ Aside0 (Kd.R k69 69 w' w.heap.size (fun _ => True) v276 x3_1) ∧ Aside0 (Below w.heap.size w w'))
      case atStart => exact ⟨(y275), (0), (by first | rfl | (simp; done) | (simp [*]; done)), H', ⟨Nat.le_refl _⟩, ⟨by (with_reducible repeat (first | apply Kd.R_alloc | apply Kd.R_drewN | apply Kd.R_drew)); exact HO277.out⟩, ⟨by repeat (first | (with_reducible first | exact HB.out | apply below_alloc | apply pw_below_drewN | apply below_drew1) | exact HB.out)⟩⟩
      case round =>
        clear H'
        try clear c2
        try clear p2
        try clear c3
        try clear c3b0
        try clear c3b1
        try clear c4
        try clear c4b0
        try clear c4b1
        try clear p6
        obtain ⟨x3_1, x4_1, rfl, HA, HK1, HO_3, HB⟩ := hrel
        cases gk with
        | zero => exact absurd HA.out (by simp [cabstandlaw01_TwinEdges.l0])
        | succ k1 =>
          have H := HA.out
          clear HA
          simp only [cabstandlaw01_TwinEdges.l0] at H
          by_cases c7 : x4_1 < (l0.length : Int)
          · rw [if_pos c7] at H
            have c7b0 : decide (x4_1 < (l0.length : Int)) = true := decide_eq_true c7
            clear c7
            by_cases c8 : 0 ≤ x4_1
            · rw [if_pos c8] at H
              have c8b0 : decide (0 ≤ x4_1) = true := decide_eq_true c8
              clear c8
              by_cases c9 : x4_1 < (x3_1.length : Int)
              · rw [if_pos c9] at H
                have c9b0 : decide (x4_1 < (x3_1.length : Int)) = true := decide_eq_true c9
                clear c9
                obtain ⟨y279, hy279⟩ : ∃ y_ : List (S69), y_ = (x3_1.set (x4_1 : Int).toNat (⟨(rd_T69 l0 x4_1).f0, (rd_T69 l0 x4_1).f1, (rd_T69 l0 x4_1).f2⟩ : S69)) := ⟨_, rfl⟩
                replace H : (cabstandlaw01_TwinEdges.l0 k1 l0 y279 (wrap64 (x4_1 + 1))) = some r := by first | (rw [hy279]; with_reducible exact H) | (have H2_ := (Option.bind_some _ _).symm.trans H; rw [hy279]; with_reducible exact H2_) | (have H2_ := (Option.bind_some _ _).symm.trans H; with_reducible exact H2_) | with_reducible exact H | (rw [hy279]; exact H) | exact H
                have Ny279 := Aside0.mk hy279
                clear hy279
                have H' := Aside0.mk H
                clear H
                have p278 : 0 ≤ (x4_1 : Int) := of_decide_eq_true (by first | (with_reducible assumption) | assumption)
                have q278 : x4_1 < (l0.length : Int) := of_decide_eq_true (by first | (with_reducible assumption) | assumption)
                obtain ⟨ad278, e278, hx278_0, hx278_1, hx278_2⟩ := at_T69 HR0.out x4_1 p278 q278
                cases e278
                replace hx278_0 := (HB.out.cell (World.block_lt_of_cell? w _ hx278_0)).trans hx278_0
                replace hx278_1 := (HB.out.cell (World.block_lt_of_cell? w _ hx278_1)).trans hx278_1
                replace hx278_2 := (HB.out.cell (World.block_lt_of_cell? w _ hx278_2)).trans hx278_2
                replace p278 := eq_true p278
                replace q278 := eq_true q278
                have p10 : 0 ≤ (x4_1 : Int) := of_decide_eq_true (by first | (with_reducible assumption) | assumption)
                have q10 : (x4_1 : Int) < ((x3_1.length : Int) : Int) := of_decide_eq_true (by first | (with_reducible assumption) | assumption)
                obtain ⟨go10, co10, eo10, gb10, gl10, cl10, HG10⟩ := Kd.R_form HO_3.out (by omega)
                (first | cases eo10 | (injection eo10 with ea_ en_ ec_; (first | subst ea_ | (injection ea_ with ea_; subst ea_)); subst ec_; clear en_))
                have GB10 := Aside0.mk gb10
                have GG10 := Aside0.mk HG10
                clear gb10 gl10 HG10
                obtain ⟨ce10, hcl10, hM10, hcc10, hfr10⟩ := Kd.R_elem HO_3.out z69 (x4_1 : Int) p10 q10
                obtain rfl := k69_openM hM10
                have hx10_0 : wr.cell? ⟨go10, (x4_1 : Int).toNat * 3, none⟩ = some (.int .i64 ((rd_T69 x3_1 x4_1).f0)) := hcc10 0 _ rfl
                have hx10_1 : wr.cell? ⟨go10, (x4_1 : Int).toNat * 3 + 1, none⟩ = some (.int .i64 ((rd_T69 x3_1 x4_1).f1)) := hcc10 1 _ rfl
                have hx10_2 : wr.cell? ⟨go10, (x4_1 : Int).toNat * 3 + 2, none⟩ = some (.int .i64 ((rd_T69 x3_1 x4_1).f2)) := hcc10 2 _ rfl
                have hf10_0 : wr.frozen? ⟨go10, (x4_1 : Int).toNat * 3, none⟩ = false := hfr10 0
                have hf10_1 : wr.frozen? ⟨go10, (x4_1 : Int).toNat * 3 + 1, none⟩ = false := hfr10 1
                have hf10_2 : wr.frozen? ⟨go10, (x4_1 : Int).toNat * 3 + 2, none⟩ = false := hfr10 2
                clear hcl10 hcc10 hfr10 hM10
                replace p10 := eq_true p10
                replace q10 := eq_true q10
                have HX11 := Aside0.mk (show Kd.R k69 69 wr w.heap.size (fun _ => True) (.slice (some ⟨go10, 0, none⟩) x3_1.length co10) x3_1 from (by (with_reducible repeat (first | apply Kd.R_alloc | apply Kd.R_drewN | apply Kd.R_drew)); exact HO_3.out))
                obtain ⟨ce11, hcl11, hM11, hcc11, hfr11⟩ := Kd.R_elem HX11.out z69 (x4_1 : Int) (of_decide_eq_true (by first | (with_reducible assumption) | assumption)) (by have h_ : (x4_1 : Int) < ((x3_1.length : Int) : Int) := of_decide_eq_true (by first | (with_reducible assumption) | assumption); first | exact h_ | (have e_ := (Kd.R_reads' HO_3.out).1; omega) | simpa using h_)
                obtain rfl := k69_openM hM11
                have HP11 := Kd.R_seg HX11.out (x4_1 : Int) (of_decide_eq_true (by first | (with_reducible assumption) | assumption)) (by have h_ : (x4_1 : Int) < ((x3_1.length : Int) : Int) := of_decide_eq_true (by first | (with_reducible assumption) | assumption); first | exact h_ | (have e_ := (Kd.R_reads' HO_3.out).1; omega) | simpa using h_) (seg := [.int .i64 ((rd_T69 l0 x4_1).f0), .int .i64 ((rd_T69 l0 x4_1).f1), .int .i64 ((rd_T69 l0 x4_1).f2)]) (j := 0) hcl11 hcc11 (show 3 ≤ 3 from by decide) (x' := (⟨(rd_T69 l0 x4_1).f0, (rd_T69 l0 x4_1).f1, (rd_T69 l0 x4_1).f2⟩ : S69)) (k69_mkM _ _ _ (⟨(rd_T69 l0 x4_1).f0, (rd_T69 l0 x4_1).f1, (rd_T69 l0 x4_1).f2⟩ : S69) ) (fun _ hk => hk)
                have hx11_0 := hcc11 0 _ rfl
                (try simp only [show (k69).sz = 3 from rfl, Nat.mul_one, Nat.add_zero] at hx11_0)
                have hf11_0 := hfr11 0
                (try simp only [show (k69).sz = 3 from rfl, Nat.mul_one, Nat.add_zero] at hf11_0)
                have hx11_1 := hcc11 1 _ rfl
                (try simp only [show (k69).sz = 3 from rfl, Nat.mul_one, Nat.add_zero] at hx11_1)
                have hf11_1 := hfr11 1
                (try simp only [show (k69).sz = 3 from rfl, Nat.mul_one, Nat.add_zero] at hf11_1)
                have hx11_2 := hcc11 2 _ rfl
                (try simp only [show (k69).sz = 3 from rfl, Nat.mul_one, Nat.add_zero] at hx11_2)
                have hf11_2 := hfr11 2
                (try simp only [show (k69).sz = 3 from rfl, Nat.mul_one, Nat.add_zero] at hf11_2)
                clear hcl11 hcc11 hfr11 hM11
                go_wp2_with (first | ((with_reducible refine gate_store (t := 69) (p := 21) rfl ?_); refine store_event (t := 69) (p := 21) (v := ?vo_w12) (w1 := (((wr.setCell ⟨go10, (x4_1 : Int).toNat * 3, none⟩ (.int .i64 ((rd_T69 l0 x4_1).f0))).setCell ⟨go10, (x4_1 : Int).toNat * 3 + 1, none⟩ (.int .i64 ((rd_T69 l0 x4_1).f1))).setCell ⟨go10, (x4_1 : Int).toNat * 3 + 2, none⟩ (.int .i64 ((rd_T69 l0 x4_1).f2)))) ?hg ?ho ?hn ?hr ?_; (case ho => rfl); (case hg => rfl); (case hn => rfl); (case hr => first | (go_simp; done) | (go_simp; rfl)); intro w12 hw; have hg : wr.grownBy w12 (some go10) := (by rw [hw]; exact HP11.2); have hp_ : Kd.R k69 69 w12 w.heap.size (fun _ => True) (.slice (some ⟨go10, 0, none⟩) x3_1.length co10) y279 := (by rw [hw, Ny279.out]; exact HP11.1); clear HP11; have n0_ := Aside0.mk (hp_); have n1_ := Aside0.mk ((by rw [hw]; exact below_set (below_set (below_set (HB.out) GB10.out) GB10.out) GB10.out : Below w.heap.size w w12)); clear HO_3; clear HB; have HO_3 := n0_; have HB := n1_; clear n0_ n1_; clear hg hw hp_))
                go_roundg k1
                case measure => have := HK1.out; omega
                case rel => exact ⟨(y279), (wrap64 (x4_1 + 1)), (by first | rfl | (simp; done) | (simp [*]; done)), H', ⟨by have := HK1.out; omega⟩, ⟨by (with_reducible repeat (first | apply Kd.R_alloc | apply Kd.R_drewN | apply Kd.R_drew)); exact HO_3.out⟩, ⟨by repeat (first | (with_reducible first | exact HB.out | apply below_alloc | apply pw_below_drewN | apply below_drew1) | exact HB.out)⟩⟩
              · rw [if_neg c9] at H
                exact absurd H (by simp)
            · rw [if_neg c8] at H
              exact absurd H (by simp)
          · rw [if_neg c7] at H
            have c7b0 : decide (x4_1 < (l0.length : Int)) = false := decide_eq_false c7
            clear c7
            replace H := Option.bind_eq_some_iff.mp H
            obtain ⟨⟨t280, t281, t282⟩, A130, H⟩ := H
            replace H : (if 0 ≤ (l0.length : Int) then (if (l0.length : Int) < (x3_1.length : Int) then (if (l0.length : Int) ≤ (x3_1.length : Int) then (some ((x3_1.set ((l0.length : Int) : Int).toNat (⟨t280, t281, t282⟩ : S69)).take ((l0.length : Int) : Int).toNat)) else (none)) else (none)) else (none)) = some r := H
            have A13 := Aside0.mk A130
            clear A130
            by_cases c14 : 0 ≤ (l0.length : Int)
            · rw [if_pos c14] at H
              have c14b0 : decide (0 ≤ (l0.length : Int)) = true := decide_eq_true c14
              have c14b1 : decide (0 ≤ l0.length) = true := decide_eq_true (by omega)
              clear c14
              by_cases c15 : (l0.length : Int) < (x3_1.length : Int)
              · rw [if_pos c15] at H
                have c15b0 : decide ((l0.length : Int) < (x3_1.length : Int)) = true := decide_eq_true c15
                have c15b1 : decide (l0.length < x3_1.length) = true := decide_eq_true (Int.ofNat_lt.mp c15)
                clear c15
                obtain ⟨y283, hy283⟩ : ∃ y_ : List (S69), y_ = (x3_1.set ((l0.length : Int) : Int).toNat (⟨t280, t281, t282⟩ : S69)) := ⟨_, rfl⟩
                replace H : (if (l0.length : Int) ≤ (x3_1.length : Int) then (some (y283.take ((l0.length : Int) : Int).toNat)) else (none)) = some r := by first | (rw [hy283]; with_reducible exact H) | (have H2_ := (Option.bind_some _ _).symm.trans H; rw [hy283]; with_reducible exact H2_) | (have H2_ := (Option.bind_some _ _).symm.trans H; with_reducible exact H2_) | with_reducible exact H | (rw [hy283]; exact H) | exact H
                have Ny283 := Aside0.mk hy283
                clear hy283
                by_cases c17 : (l0.length : Int) ≤ (x3_1.length : Int)
                · rw [if_pos c17] at H
                  have c17b0 := eq_true c17
                  have c17b1 : decide ((l0.length : Int) ≤ (x3_1.length : Int)) = true := decide_eq_true c17
                  clear c17
                  obtain ⟨y284, hy284⟩ : ∃ y_ : List (S69), y_ = (y283.take ((l0.length : Int) : Int).toNat) := ⟨_, rfl⟩
                  replace H : (some y284) = some r := by first | (rw [hy284]; with_reducible exact H) | (have H2_ := (Option.bind_some _ _).symm.trans H; rw [hy284]; with_reducible exact H2_) | (have H2_ := (Option.bind_some _ _).symm.trans H; with_reducible exact H2_) | with_reducible exact H | (rw [hy284]; exact H) | exact H
                  have Ny284 := Aside0.mk hy284
                  clear hy284
                  obtain rfl := Option.some.inj H
                  have hle0_ : l0.length < x3_1.length := by have h_ := of_decide_eq_true c15b0; omega
                  obtain ⟨go16, co16, eo16, gb16, gl16, cl16, HG16⟩ := Kd.R_form HO_3.out (by omega)
                  subst eo16
                  have GB16 := Aside0.mk gb16
                  have hle1_ : x3_1.length ≤ co16 := (Kd.R_reads' HO_3.out).2.1
                  have hle2_ : l0.length ≤ co16 := by omega
                  have hle3_ : (l0.length : Int) ≤ (co16 : Int) := by omega
                  clear gb16 gl16 HG16 hle1_
                  go_wp2_with (first | ((with_reducible refine gate_callee (f := 50) rfl ?_); refine goesL_ (some 25) rfl rfl Try.func50 (by kernel_rfl) rfl #[.int .i64 7777] rfl (by (try simp only [List.map_toArray, List.map_cons, List.map_nil]); first | done | rfl | (simp only [List.length_drop, List.length_take]; rfl)) ?_; (with_reducible refine (cabstandlaw01_markEdge.calls 7777 t280 t281 t282 _ A13.out).mono ?_); rintro e w18 ⟨rfl, hb⟩; refine ⟨_, rfl, ?_⟩; have n0_ := Aside0.mk (Kd.R_below (by (with_reducible repeat (first | apply Kd.R_alloc | apply Kd.R_drewN | apply Kd.R_drew)); exact HO_3.out) hb); have n1_ := Aside0.mk (below_step (by repeat (first | (with_reducible first | exact HB.out | apply below_alloc | apply pw_below_drewN | apply below_drew1) | exact HB.out)) hb); clear HO_3; clear HB; have HO_3 := n0_; have HB := n1_; clear n0_ n1_; (try clear hb); (try clear hb2); (try clear hk); (try clear hi); have p16 : 0 ≤ ((l0.length : Int) : Int) := of_decide_eq_true (by first | (with_reducible assumption) | assumption); have q16 : ((l0.length : Int) : Int) < ((x3_1.length : Int) : Int) := of_decide_eq_true (by first | (with_reducible assumption) | assumption); obtain ⟨ce16, hcl16, hM16, hcc16, hfr16⟩ := Kd.R_elem HO_3.out z69 ((l0.length : Int) : Int) p16 q16; obtain rfl := k69_openM hM16; have hx16_0 : w18.cell? ⟨go16, ((l0.length : Int) : Int).toNat * 3, none⟩ = some (.int .i64 ((rd_T69 x3_1 (l0.length : Int)).f0)) := hcc16 0 _ rfl; have hx16_1 : w18.cell? ⟨go16, ((l0.length : Int) : Int).toNat * 3 + 1, none⟩ = some (.int .i64 ((rd_T69 x3_1 (l0.length : Int)).f1)) := hcc16 1 _ rfl; have hx16_2 : w18.cell? ⟨go16, ((l0.length : Int) : Int).toNat * 3 + 2, none⟩ = some (.int .i64 ((rd_T69 x3_1 (l0.length : Int)).f2)) := hcc16 2 _ rfl; have hf16_0 : w18.frozen? ⟨go16, ((l0.length : Int) : Int).toNat * 3, none⟩ = false := hfr16 0; have hf16_1 : w18.frozen? ⟨go16, ((l0.length : Int) : Int).toNat * 3 + 1, none⟩ = false := hfr16 1; have hf16_2 : w18.frozen? ⟨go16, ((l0.length : Int) : Int).toNat * 3 + 2, none⟩ = false := hfr16 2; clear hcl16 hcc16 hfr16 hM16; replace p16 := eq_true p16; replace q16 := eq_true q16; have HX19 := Aside0.mk (show Kd.R k69 69 w18 w.heap.size (fun _ => True) (.slice (some ⟨go16, 0, none⟩) x3_1.length co16) x3_1 from (by (with_reducible repeat (first | apply Kd.R_alloc | apply Kd.R_drewN | apply Kd.R_drew)); exact HO_3.out)); obtain ⟨ce19, hcl19, hM19, hcc19, hfr19⟩ := Kd.R_elem HX19.out z69 ((l0.length : Int) : Int) (of_decide_eq_true (by first | (with_reducible assumption) | assumption)) (by have h_ : ((l0.length : Int) : Int) < ((x3_1.length : Int) : Int) := of_decide_eq_true (by first | (with_reducible assumption) | assumption); first | exact h_ | (have e_ := (Kd.R_reads' HO_3.out).1; omega) | simpa using h_); obtain rfl := k69_openM hM19; have HP19 := Kd.R_seg HX19.out ((l0.length : Int) : Int) (of_decide_eq_true (by first | (with_reducible assumption) | assumption)) (by have h_ : ((l0.length : Int) : Int) < ((x3_1.length : Int) : Int) := of_decide_eq_true (by first | (with_reducible assumption) | assumption); first | exact h_ | (have e_ := (Kd.R_reads' HO_3.out).1; omega) | simpa using h_) (seg := [.int .i64 t280, .int .i64 t281, .int .i64 t282]) (j := 0) hcl19 hcc19 (show 3 ≤ 3 from by decide) (x' := (⟨t280, t281, t282⟩ : S69)) (k69_mkM _ _ _ (⟨t280, t281, t282⟩ : S69) ) (fun _ hk => hk); have hx19_0 := hcc19 0 _ rfl; (try simp only [show (k69).sz = 3 from rfl, Nat.mul_one, Nat.add_zero] at hx19_0); have hf19_0 := hfr19 0; (try simp only [show (k69).sz = 3 from rfl, Nat.mul_one, Nat.add_zero] at hf19_0); have hx19_1 := hcc19 1 _ rfl; (try simp only [show (k69).sz = 3 from rfl, Nat.mul_one, Nat.add_zero] at hx19_1); have hf19_1 := hfr19 1; (try simp only [show (k69).sz = 3 from rfl, Nat.mul_one, Nat.add_zero] at hf19_1); have hx19_2 := hcc19 2 _ rfl; (try simp only [show (k69).sz = 3 from rfl, Nat.mul_one, Nat.add_zero] at hx19_2); have hf19_2 := hfr19 2; (try simp only [show (k69).sz = 3 from rfl, Nat.mul_one, Nat.add_zero] at hf19_2); clear hcl19 hcc19 hfr19 hM19; have hn16_0 : w18.cell? ⟨go16, l0.length * 3, none⟩ = _ := hx16_0; have hm16_0 : w18.frozen? ⟨go16, l0.length * 3, none⟩ = false := hf16_0; have hn16_1 : w18.cell? ⟨go16, l0.length * 3 + 1, none⟩ = _ := hx16_1; have hm16_1 : w18.frozen? ⟨go16, l0.length * 3 + 1, none⟩ = false := hf16_1; have hn16_2 : w18.cell? ⟨go16, l0.length * 3 + 2, none⟩ = _ := hx16_2; have hm16_2 : w18.frozen? ⟨go16, l0.length * 3 + 2, none⟩ = false := hf16_2))
                  go_ret
                  have HG_ := GB16.out
                  have hc_ : l0.length < x3_1.length := by have h_ := of_decide_eq_true c15b0; omega
                  have hr_ := Ny284.out
                  rw [Ny283.out] at hr_
                  exact ⟨go16, co16, rfl, x3_1, t280, t281, t282, HP19.1, hr_, hc_, A13.out, HG_, (by repeat (first | exact HB.out | apply below_alloc | apply pw_below_drewN | apply below_drew1 | refine below_set ?_ HG_))⟩
                · rw [if_neg c17] at H
                  exact absurd H (by simp)
              · rw [if_neg c15] at H
                exact absurd H (by simp)
            · rw [if_neg c14] at H
              exact absurd H (by simp)
    · rw [if_neg c4] at H
      exact absurd H (by simp)
  · rw [if_neg c3] at H
    exact absurd H (by simp)
theorem cabstandlaw01_TwinEdges.l0_is (l : List (S69)) (hl : l.length ≤ 9223372036854775806) : ∀ m j (x : List (S69)), j + m = l.length → x.length = l.length + 1 → (∀ i, i < j → x[i]? = l[i]?) → cabstandlaw01_TwinEdges.l0 (m + 1) l x (j : Int) = some l := by
  intro m
  induction m with
  | zero =>
    intro j x hj hx h
    rw [cabstandlaw01_TwinEdges.l0, if_neg (by omega)]
    have hm : ∃ v, cabstandlaw01_markEdge.f 7777 = some v := ⟨_, rfl⟩
    obtain ⟨v, hv⟩ := hm
    rw [hv, Option.bind_some, if_pos (by omega), if_pos (by omega), if_pos (by omega)]
    refine congrArg some (List.ext_getElem? (fun i => ?_))
    rw [List.getElem?_take]
    by_cases hi : i < l.length
    · rw [if_pos (by omega), List.getElem?_set_ne (by omega)]
      exact h i (by omega)
    · rw [if_neg (by omega), List.getElem?_eq_none (by omega)]
  | succ m ih =>
    intro j x hj hx h
    rw [cabstandlaw01_TwinEdges.l0, if_pos (by omega), if_pos (by omega), if_pos (by omega)]
    have e3 : wrap64 ((j : Int) + 1) = ((j + 1 : Nat) : Int) := by unfold wrap64; omega
    rw [e3]
    refine ih (j + 1) _ (by omega) (by rw [List.length_set]; exact hx) (fun i hi => ?_)
    by_cases hij : i = j
    · subst hij
      have hil : i < l.length := by omega
      rw [Int.toNat_natCast, List.getElem?_set_self (by omega)]
      have e : (⟨(rd_T69 l (i : Int)).f0, (rd_T69 l (i : Int)).f1, (rd_T69 l (i : Int)).f2⟩ : S69) = l[i] := by simp [rd_T69, List.getD, hil]
      rw [e, List.getElem?_eq_getElem hil]
    · rw [Int.toNat_natCast, List.getElem?_set_ne (by omega)]
      exact h i (by omega)
theorem cabstandlaw01_TwinEdges.f_is (l : List (S69)) (hl : l.length + 1 ≤ 11728124029610) : cabstandlaw01_TwinEdges.f (l.length + 1) l = some l := by
  have e3 : wrap64 ((l.length : Int) + 1) = ((l.length + 1 : Nat) : Int) := by unfold wrap64; omega
  unfold cabstandlaw01_TwinEdges.f
  rw [e3, if_pos (by omega), if_pos (by omega)]
  exact cabstandlaw01_TwinEdges.l0_is l (by omega) l.length 0 _ (by omega) (by simp) (fun i hi => absurd hi (by omega))

end Go.Proofs.Ytmdidgdcdlodlaa.Q
/- The copy that cabstandlaw01_TwinPairs makes, with the mark behind it. Written by wip/gen/marks.py out of the printed walk. -/
namespace Go.Proofs.Ytmdidgdcdlodlaa.Q
open Go.RowKit Go.Proofs.YtmdidgdcdlodlaaW.PrintWords Go.Proofs.YtmdidgdcdlodlaaW.PrintLast Go.Proofs.YtmdidgdcdlodlaaW.PrintMore
attribute [local go_sem] max2_int min2_int max_two min_two max_three min_three max_four min_four   -- for this text's walks alone
set_option linter.unusedVariables false
set_option linter.unusedSimpArgs false

/-! ### cabstandlaw01_TwinPairs: function 18 -/
def cabstandlaw01_TwinPairs.l0 : Nat → List (S50) → List (S50) → Int → Option ((List (S50)))
  | 0, _, _, _ => none
  | k + 1, x0, x3, x4 => if x4 < (x0.length : Int) then (if 0 ≤ x4 then (if x4 < (x3.length : Int) then (cabstandlaw01_TwinPairs.l0 k x0 (x3.set (x4 : Int).toNat (⟨(rd_T50 x0 x4).f0, (rd_T50 x0 x4).f1⟩ : S50)) (wrap64 (x4 + 1))) else (none)) else (none)) else ((cabstandlaw01_markPair.f 7777).bind fun bt298 => (if 0 ≤ (x0.length : Int) then (if (x0.length : Int) < (x3.length : Int) then (if (x0.length : Int) ≤ (x3.length : Int) then (some ((x3.set ((x0.length : Int) : Int).toNat (⟨bt298.1, bt298.2⟩ : S50)).take ((x0.length : Int) : Int).toNat)) else (none)) else (none)) else (none)))
def cabstandlaw01_TwinPairs.f (k : Nat) (l0 : List (S50)) : Option ((List (S50))) := if 0 ≤ (wrap64 ((l0.length : Int) + 1)) then (if (wrap64 ((l0.length : Int) + 1) : Int).toNat ≤ 17592186044416 then (cabstandlaw01_TwinPairs.l0 k l0 (List.replicate (wrap64 ((l0.length : Int) + 1) : Int).toNat z50) 0) else (none)) else (none)
theorem cabstandlaw01_TwinPairs.mono_l : ∀ k, (∀ y0 y1 y2, LeO (cabstandlaw01_TwinPairs.l0 k y0 y1 y2) (cabstandlaw01_TwinPairs.l0 (k + 1) y0 y1 y2))
  | 0 => fun _ _ _ r h => by simp [cabstandlaw01_TwinPairs.l0] at h
  | k + 1 => by
    have ih0 := cabstandlaw01_TwinPairs.mono_l k
    · intro y0 y1 y2
      unfold cabstandlaw01_TwinPairs.l0
      repeat' first
      | (with_reducible exact ih0 _ _ _)
      | (with_reducible exact LeO.refl _)
      | (with_reducible exact LeO.none _)
      | (with_reducible refine LeO.ite ?_ ?_)
      | (with_reducible refine LeO.bind ?_ (fun _ => ?_))
      | exact ih0 _ _ _
      | exact LeO.none _
      | refine LeO.ite ?_ ?_
      | refine LeO.bind ?_ (fun _ => ?_)
theorem cabstandlaw01_TwinPairs.mono : ∀ a0 k, LeO (cabstandlaw01_TwinPairs.f k a0) (cabstandlaw01_TwinPairs.f (k + 1) a0) := by
  intro a0 k
  have ih0 := cabstandlaw01_TwinPairs.mono_l k
  unfold cabstandlaw01_TwinPairs.f
  repeat' first
      | (with_reducible exact ih0 _ _ _)
      | (with_reducible exact LeO.refl _)
      | (with_reducible exact LeO.none _)
      | (with_reducible refine LeO.ite ?_ ?_)
      | (with_reducible refine LeO.bind ?_ (fun _ => ?_))
      | exact ih0 _ _ _
      | exact LeO.none _
      | refine LeO.ite ?_ ?_
      | refine LeO.bind ?_ (fun _ => ?_)
set_option maxHeartbeats 8000000 in
set_option maxRecDepth 100000 in
theorem cabstandlaw01_TwinPairs.marks (k : Nat) (A0 : Option Addr) (c0 : Nat) (l0 : List (S50)) (r : List (S50)) (w : World) (hr0 : Kd.C k50 w A0 l0.length l0) (hc0 : l0.length ≤ c0) (h : cabstandlaw01_TwinPairs.f k l0 = some r) :
    Calls Try.prog 18 #[.slice A0 l0.length c0] w fun e w' => ∃ (go co : Nat) (x : List (S50)) (m0 m1 : Int), e = .returned (.slice (some ⟨go, 0, none⟩) l0.length co) ∧ Kd.R k50 50 w' w.heap.size (fun _ => True) (.slice (some ⟨go, 0, none⟩) x.length co) (x.set l0.length (⟨m0, m1⟩ : (S50))) ∧ r = (x.set l0.length (⟨m0, m1⟩ : (S50))).take l0.length ∧ l0.length < x.length ∧ cabstandlaw01_markPair.f 7777 = some (m0, m1) ∧ w.heap.size ≤ go ∧ Below w.heap.size w w' := by
  have hu50 := Try.underlying50
  have HR0 := Aside0.mk hr0
  have HC0 := Aside0.mk hc0
  clear hr0 hc0
  have HB := Aside0.mk (Below.refl w.heap.size w)
  have H : (if 0 ≤ (wrap64 ((l0.length : Int) + 1)) then (if (wrap64 ((l0.length : Int) + 1) : Int).toNat ≤ 17592186044416 then (cabstandlaw01_TwinPairs.l0 k l0 (List.replicate (wrap64 ((l0.length : Int) + 1) : Int).toNat z50) 0) else (none)) else (none)) = some r := h
  clear h
  obtain ⟨ji2, hji2⟩ : ∃ j_ : Int, (wrap64 ((l0.length : Int) + 1)) = j_ := ⟨_, rfl⟩
  replace H : (if 0 ≤ (ji2) then (if (ji2 : Int).toNat ≤ 17592186044416 then (cabstandlaw01_TwinPairs.l0 k l0 (List.replicate (ji2 : Int).toNat z50) 0) else (none)) else (none)) = some r := by first | (rw [hji2] at H; exact H) | (simp only [hji2] at H ⊢; exact H)
  have hji2w : (IntKind.i64.wrap ((l0.length : Int) + 1)) = ji2 := (i64_w _).trans hji2
  by_cases c3 : 0 ≤ (ji2)
  · rw [if_pos c3] at H
    have c3b0 := eq_true c3
    have c3b1 : decide (0 ≤ (ji2)) = true := decide_eq_true c3
    clear c3
    by_cases c4 : (ji2 : Int).toNat ≤ 17592186044416
    · rw [if_pos c4] at H
      have c4b0 := eq_true c4
      have c4b1 : decide ((ji2 : Int).toNat ≤ 17592186044416) = true := decide_eq_true c4
      clear c4
      obtain ⟨y293, hy293⟩ : ∃ y_ : List (S50), y_ = (List.replicate (ji2 : Int).toNat z50) := ⟨_, rfl⟩
      replace H : (cabstandlaw01_TwinPairs.l0 k l0 y293 0) = some r := by first | (rw [hy293]; with_reducible exact H) | (have H2_ := (Option.bind_some _ _).symm.trans H; rw [hy293]; with_reducible exact H2_) | (have H2_ := (Option.bind_some _ _).symm.trans H; with_reducible exact H2_) | with_reducible exact H | (rw [hy293]; exact H) | exact H
      have Ny293 := Aside0.mk hy293
      clear hy293
      have H' := Aside0.mk H
      clear H
      go_enter Try.func18, Try.ntmps18
      go_wp2_with (first | ((with_reducible refine gate_dst (N := 8) rfl ?_); refine Kd.R_make k50 _ 50 rfl (N := 8) rfl 25 _ _ rfl ji2 rfl rfl Try.underlying25 (.agg #[(.int .i64 0), (.int .i64 0)]) 16 info50 rfl (by decide) (by omega) z50 (ok := fun _ => True) (okp := fun _ => True) (k50_mkM _ _ _ z50 ) (fun _ hk => hk) trivial (of_decide_eq_true (by first | (with_reducible assumption) | assumption)) (Nat.le_trans (Nat.mul_le_mul_right _ (of_decide_eq_true (by first | (with_reducible assumption) | assumption) : ji2.toNat ≤ 17592186044416)) (by omega)) (Below.refl _ _) (Nat.le_refl _) ?_; intro v294 w5 ho6 hb hg_ hnew_; clear hg_ hnew_; (first | rw [← Ny293.out] at ho6 | (simp only [Int.reduceToNat] at ho6; rw [← Ny293.out] at ho6)); have n0_ := Aside0.mk (Kd.R_lower ho6 (below_size (by repeat (first | (with_reducible first | exact HB.out | apply below_alloc | apply pw_below_drewN | apply below_drew1) | exact HB.out)))); have n1_ := Aside0.mk (below_step (by repeat (first | (with_reducible first | exact HB.out | apply below_alloc | apply pw_below_drewN | apply below_drew1) | exact HB.out)) hb); clear HB; have HO295 := n0_; have HB := n1_; clear n0_ n1_; clear hb ho6))
      go_loopg [4] k (fun kq v4 w' => ∃ (x3_1 : List (S50)) (x4_1 : Int), v4 = .int .i64 x4_1 ∧ Aside0 (cabstandlaw01_TwinPairs.l0 kq l0 x3_1 x4_1 = some r) ∧ Aside0 (kq ≤ k) ∧ Aside0 (Kd.R k50 50 w' w.heap.size (fun _ => True) v294 x3_1) ∧ Aside0 (Below w.heap.size w w'))
      case atStart => exact ⟨(y293), (0), (by first | rfl | (simp; done) | (simp [*]; done)), H', ⟨Nat.le_refl _⟩, ⟨by (with_reducible repeat (first | apply Kd.R_alloc | apply Kd.R_drewN | apply Kd.R_drew)); exact HO295.out⟩, ⟨by repeat (first | (with_reducible first | exact HB.out | apply below_alloc | apply pw_below_drewN | apply below_drew1) | exact HB.out)⟩⟩
      case round =>
        clear H'
        try clear c1
        try clear p2
        try clear c3
        try clear c3b0
        try clear c3b1
        try clear c4
        try clear c4b0
        try clear c4b1
        try clear p6
        obtain ⟨x3_1, x4_1, rfl, HA, HK1, HO_3, HB⟩ := hrel
        cases gk with
        | zero => exact absurd HA.out (by simp [cabstandlaw01_TwinPairs.l0])
        | succ k1 =>
          have H := HA.out
          clear HA
          simp only [cabstandlaw01_TwinPairs.l0] at H
          by_cases c7 : x4_1 < (l0.length : Int)
          · rw [if_pos c7] at H
            have c7b0 : decide (x4_1 < (l0.length : Int)) = true := decide_eq_true c7
            clear c7
            by_cases c8 : 0 ≤ x4_1
            · rw [if_pos c8] at H
              have c8b0 : decide (0 ≤ x4_1) = true := decide_eq_true c8
              clear c8
              by_cases c9 : x4_1 < (x3_1.length : Int)
              · rw [if_pos c9] at H
                have c9b0 : decide (x4_1 < (x3_1.length : Int)) = true := decide_eq_true c9
                clear c9
                obtain ⟨y297, hy297⟩ : ∃ y_ : List (S50), y_ = (x3_1.set (x4_1 : Int).toNat (⟨(rd_T50 l0 x4_1).f0, (rd_T50 l0 x4_1).f1⟩ : S50)) := ⟨_, rfl⟩
                replace H : (cabstandlaw01_TwinPairs.l0 k1 l0 y297 (wrap64 (x4_1 + 1))) = some r := by first | (rw [hy297]; with_reducible exact H) | (have H2_ := (Option.bind_some _ _).symm.trans H; rw [hy297]; with_reducible exact H2_) | (have H2_ := (Option.bind_some _ _).symm.trans H; with_reducible exact H2_) | with_reducible exact H | (rw [hy297]; exact H) | exact H
                have Ny297 := Aside0.mk hy297
                clear hy297
                have H' := Aside0.mk H
                clear H
                have p296 : 0 ≤ (x4_1 : Int) := of_decide_eq_true (by first | (with_reducible assumption) | assumption)
                have q296 : x4_1 < (l0.length : Int) := of_decide_eq_true (by first | (with_reducible assumption) | assumption)
                obtain ⟨ad296, e296, hx296_0, hx296_1⟩ := at_T50 HR0.out x4_1 p296 q296
                cases e296
                replace hx296_0 := (HB.out.cell (World.block_lt_of_cell? w _ hx296_0)).trans hx296_0
                replace hx296_1 := (HB.out.cell (World.block_lt_of_cell? w _ hx296_1)).trans hx296_1
                replace p296 := eq_true p296
                replace q296 := eq_true q296
                have p10 : 0 ≤ (x4_1 : Int) := of_decide_eq_true (by first | (with_reducible assumption) | assumption)
                have q10 : (x4_1 : Int) < ((x3_1.length : Int) : Int) := of_decide_eq_true (by first | (with_reducible assumption) | assumption)
                obtain ⟨go10, co10, eo10, gb10, gl10, cl10, HG10⟩ := Kd.R_form HO_3.out (by omega)
                (first | cases eo10 | (injection eo10 with ea_ en_ ec_; (first | subst ea_ | (injection ea_ with ea_; subst ea_)); subst ec_; clear en_))
                have GB10 := Aside0.mk gb10
                have GG10 := Aside0.mk HG10
                clear gb10 gl10 HG10
                obtain ⟨ce10, hcl10, hM10, hcc10, hfr10⟩ := Kd.R_elem HO_3.out z50 (x4_1 : Int) p10 q10
                obtain rfl := k50_openM hM10
                have hx10_0 : wr.cell? ⟨go10, (x4_1 : Int).toNat * 2, none⟩ = some (.int .i64 ((rd_T50 x3_1 x4_1).f0)) := hcc10 0 _ rfl
                have hx10_1 : wr.cell? ⟨go10, (x4_1 : Int).toNat * 2 + 1, none⟩ = some (.int .i64 ((rd_T50 x3_1 x4_1).f1)) := hcc10 1 _ rfl
                have hf10_0 : wr.frozen? ⟨go10, (x4_1 : Int).toNat * 2, none⟩ = false := hfr10 0
                have hf10_1 : wr.frozen? ⟨go10, (x4_1 : Int).toNat * 2 + 1, none⟩ = false := hfr10 1
                clear hcl10 hcc10 hfr10 hM10
                replace p10 := eq_true p10
                replace q10 := eq_true q10
                have HX11 := Aside0.mk (show Kd.R k50 50 wr w.heap.size (fun _ => True) (.slice (some ⟨go10, 0, none⟩) x3_1.length co10) x3_1 from (by (with_reducible repeat (first | apply Kd.R_alloc | apply Kd.R_drewN | apply Kd.R_drew)); exact HO_3.out))
                obtain ⟨ce11, hcl11, hM11, hcc11, hfr11⟩ := Kd.R_elem HX11.out z50 (x4_1 : Int) (of_decide_eq_true (by first | (with_reducible assumption) | assumption)) (by have h_ : (x4_1 : Int) < ((x3_1.length : Int) : Int) := of_decide_eq_true (by first | (with_reducible assumption) | assumption); first | exact h_ | (have e_ := (Kd.R_reads' HO_3.out).1; omega) | simpa using h_)
                obtain rfl := k50_openM hM11
                have HP11 := Kd.R_seg HX11.out (x4_1 : Int) (of_decide_eq_true (by first | (with_reducible assumption) | assumption)) (by have h_ : (x4_1 : Int) < ((x3_1.length : Int) : Int) := of_decide_eq_true (by first | (with_reducible assumption) | assumption); first | exact h_ | (have e_ := (Kd.R_reads' HO_3.out).1; omega) | simpa using h_) (seg := [.int .i64 ((rd_T50 l0 x4_1).f0), .int .i64 ((rd_T50 l0 x4_1).f1)]) (j := 0) hcl11 hcc11 (show 2 ≤ 2 from by decide) (x' := (⟨(rd_T50 l0 x4_1).f0, (rd_T50 l0 x4_1).f1⟩ : S50)) (k50_mkM _ _ _ (⟨(rd_T50 l0 x4_1).f0, (rd_T50 l0 x4_1).f1⟩ : S50) ) (fun _ hk => hk)
                have hx11_0 := hcc11 0 _ rfl
                (try simp only [show (k50).sz = 2 from rfl, Nat.mul_one, Nat.add_zero] at hx11_0)
                have hf11_0 := hfr11 0
                (try simp only [show (k50).sz = 2 from rfl, Nat.mul_one, Nat.add_zero] at hf11_0)
                have hx11_1 := hcc11 1 _ rfl
                (try simp only [show (k50).sz = 2 from rfl, Nat.mul_one, Nat.add_zero] at hx11_1)
                have hf11_1 := hfr11 1
                (try simp only [show (k50).sz = 2 from rfl, Nat.mul_one, Nat.add_zero] at hf11_1)
                clear hcl11 hcc11 hfr11 hM11
                go_wp2_with (first | ((with_reducible refine gate_store (t := 50) (p := 21) rfl ?_); refine store_event (t := 50) (p := 21) (v := ?vo_w12) (w1 := ((wr.setCell ⟨go10, (x4_1 : Int).toNat * 2, none⟩ (.int .i64 ((rd_T50 l0 x4_1).f0))).setCell ⟨go10, (x4_1 : Int).toNat * 2 + 1, none⟩ (.int .i64 ((rd_T50 l0 x4_1).f1)))) ?hg ?ho ?hn ?hr ?_; (case ho => rfl); (case hg => rfl); (case hn => rfl); (case hr => first | (go_simp; done) | (go_simp; rfl)); intro w12 hw; have hg : wr.grownBy w12 (some go10) := (by rw [hw]; exact HP11.2); have hp_ : Kd.R k50 50 w12 w.heap.size (fun _ => True) (.slice (some ⟨go10, 0, none⟩) x3_1.length co10) y297 := (by rw [hw, Ny297.out]; exact HP11.1); clear HP11; have n0_ := Aside0.mk (hp_); have n1_ := Aside0.mk ((by rw [hw]; exact below_set (below_set (HB.out) GB10.out) GB10.out : Below w.heap.size w w12)); clear HO_3; clear HB; have HO_3 := n0_; have HB := n1_; clear n0_ n1_; clear hg hw hp_))
                go_roundg k1
                case measure => have := HK1.out; omega
                case rel => exact ⟨(y297), (wrap64 (x4_1 + 1)), (by first | rfl | (simp; done) | (simp [*]; done)), H', ⟨by have := HK1.out; omega⟩, ⟨by (with_reducible repeat (first | apply Kd.R_alloc | apply Kd.R_drewN | apply Kd.R_drew)); exact HO_3.out⟩, ⟨by repeat (first | (with_reducible first | exact HB.out | apply below_alloc | apply pw_below_drewN | apply below_drew1) | exact HB.out)⟩⟩
              · rw [if_neg c9] at H
                exact absurd H (by simp)
            · rw [if_neg c8] at H
              exact absurd H (by simp)
          · rw [if_neg c7] at H
            have c7b0 : decide (x4_1 < (l0.length : Int)) = false := decide_eq_false c7
            clear c7
            replace H := Option.bind_eq_some_iff.mp H
            obtain ⟨⟨t298, t299⟩, A130, H⟩ := H
            replace H : (if 0 ≤ (l0.length : Int) then (if (l0.length : Int) < (x3_1.length : Int) then (if (l0.length : Int) ≤ (x3_1.length : Int) then (some ((x3_1.set ((l0.length : Int) : Int).toNat (⟨t298, t299⟩ : S50)).take ((l0.length : Int) : Int).toNat)) else (none)) else (none)) else (none)) = some r := H
            have A13 := Aside0.mk A130
            clear A130
            by_cases c14 : 0 ≤ (l0.length : Int)
            · rw [if_pos c14] at H
              have c14b0 : decide (0 ≤ (l0.length : Int)) = true := decide_eq_true c14
              have c14b1 : decide (0 ≤ l0.length) = true := decide_eq_true (by omega)
              clear c14
              by_cases c15 : (l0.length : Int) < (x3_1.length : Int)
              · rw [if_pos c15] at H
                have c15b0 : decide ((l0.length : Int) < (x3_1.length : Int)) = true := decide_eq_true c15
                have c15b1 : decide (l0.length < x3_1.length) = true := decide_eq_true (Int.ofNat_lt.mp c15)
                clear c15
                obtain ⟨y300, hy300⟩ : ∃ y_ : List (S50), y_ = (x3_1.set ((l0.length : Int) : Int).toNat (⟨t298, t299⟩ : S50)) := ⟨_, rfl⟩
                replace H : (if (l0.length : Int) ≤ (x3_1.length : Int) then (some (y300.take ((l0.length : Int) : Int).toNat)) else (none)) = some r := by first | (rw [hy300]; with_reducible exact H) | (have H2_ := (Option.bind_some _ _).symm.trans H; rw [hy300]; with_reducible exact H2_) | (have H2_ := (Option.bind_some _ _).symm.trans H; with_reducible exact H2_) | with_reducible exact H | (rw [hy300]; exact H) | exact H
                have Ny300 := Aside0.mk hy300
                clear hy300
                by_cases c17 : (l0.length : Int) ≤ (x3_1.length : Int)
                · rw [if_pos c17] at H
                  have c17b0 := eq_true c17
                  have c17b1 : decide ((l0.length : Int) ≤ (x3_1.length : Int)) = true := decide_eq_true c17
                  clear c17
                  obtain ⟨y301, hy301⟩ : ∃ y_ : List (S50), y_ = (y300.take ((l0.length : Int) : Int).toNat) := ⟨_, rfl⟩
                  replace H : (some y301) = some r := by first | (rw [hy301]; with_reducible exact H) | (have H2_ := (Option.bind_some _ _).symm.trans H; rw [hy301]; with_reducible exact H2_) | (have H2_ := (Option.bind_some _ _).symm.trans H; with_reducible exact H2_) | with_reducible exact H | (rw [hy301]; exact H) | exact H
                  have Ny301 := Aside0.mk hy301
                  clear hy301
                  obtain rfl := Option.some.inj H
                  have hle0_ : l0.length < x3_1.length := by have h_ := of_decide_eq_true c15b0; omega
                  obtain ⟨go16, co16, eo16, gb16, gl16, cl16, HG16⟩ := Kd.R_form HO_3.out (by omega)
                  subst eo16
                  have GB16 := Aside0.mk gb16
                  have hle1_ : x3_1.length ≤ co16 := (Kd.R_reads' HO_3.out).2.1
                  have hle2_ : l0.length ≤ co16 := by omega
                  have hle3_ : (l0.length : Int) ≤ (co16 : Int) := by omega
                  clear gb16 gl16 HG16 hle1_
                  go_wp2_with (first | ((with_reducible refine gate_callee (f := 39) rfl ?_); refine goesL_ (some 25) rfl rfl Try.func39 (by kernel_rfl) rfl #[.int .i64 7777] rfl (by (try simp only [List.map_toArray, List.map_cons, List.map_nil]); first | done | rfl | (simp only [List.length_drop, List.length_take]; rfl)) ?_; (with_reducible refine (cabstandlaw01_markPair.calls 7777 t298 t299 _ A13.out).mono ?_); rintro e w18 ⟨rfl, hb⟩; refine ⟨_, rfl, ?_⟩; have n0_ := Aside0.mk (Kd.R_below (by (with_reducible repeat (first | apply Kd.R_alloc | apply Kd.R_drewN | apply Kd.R_drew)); exact HO_3.out) hb); have n1_ := Aside0.mk (below_step (by repeat (first | (with_reducible first | exact HB.out | apply below_alloc | apply pw_below_drewN | apply below_drew1) | exact HB.out)) hb); clear HO_3; clear HB; have HO_3 := n0_; have HB := n1_; clear n0_ n1_; (try clear hb); (try clear hb2); (try clear hk); (try clear hi); have p16 : 0 ≤ ((l0.length : Int) : Int) := of_decide_eq_true (by first | (with_reducible assumption) | assumption); have q16 : ((l0.length : Int) : Int) < ((x3_1.length : Int) : Int) := of_decide_eq_true (by first | (with_reducible assumption) | assumption); obtain ⟨ce16, hcl16, hM16, hcc16, hfr16⟩ := Kd.R_elem HO_3.out z50 ((l0.length : Int) : Int) p16 q16; obtain rfl := k50_openM hM16; have hx16_0 : w18.cell? ⟨go16, ((l0.length : Int) : Int).toNat * 2, none⟩ = some (.int .i64 ((rd_T50 x3_1 (l0.length : Int)).f0)) := hcc16 0 _ rfl; have hx16_1 : w18.cell? ⟨go16, ((l0.length : Int) : Int).toNat * 2 + 1, none⟩ = some (.int .i64 ((rd_T50 x3_1 (l0.length : Int)).f1)) := hcc16 1 _ rfl; have hf16_0 : w18.frozen? ⟨go16, ((l0.length : Int) : Int).toNat * 2, none⟩ = false := hfr16 0; have hf16_1 : w18.frozen? ⟨go16, ((l0.length : Int) : Int).toNat * 2 + 1, none⟩ = false := hfr16 1; clear hcl16 hcc16 hfr16 hM16; replace p16 := eq_true p16; replace q16 := eq_true q16; have HX19 := Aside0.mk (show Kd.R k50 50 w18 w.heap.size (fun _ => True) (.slice (some ⟨go16, 0, none⟩) x3_1.length co16) x3_1 from (by (with_reducible repeat (first | apply Kd.R_alloc | apply Kd.R_drewN | apply Kd.R_drew)); exact HO_3.out)); obtain ⟨ce19, hcl19, hM19, hcc19, hfr19⟩ := Kd.R_elem HX19.out z50 ((l0.length : Int) : Int) (of_decide_eq_true (by first | (with_reducible assumption) | assumption)) (by have h_ : ((l0.length : Int) : Int) < ((x3_1.length : Int) : Int) := of_decide_eq_true (by first | (with_reducible assumption) | assumption); first | exact h_ | (have e_ := (Kd.R_reads' HO_3.out).1; omega) | simpa using h_); obtain rfl := k50_openM hM19; have HP19 := Kd.R_seg HX19.out ((l0.length : Int) : Int) (of_decide_eq_true (by first | (with_reducible assumption) | assumption)) (by have h_ : ((l0.length : Int) : Int) < ((x3_1.length : Int) : Int) := of_decide_eq_true (by first | (with_reducible assumption) | assumption); first | exact h_ | (have e_ := (Kd.R_reads' HO_3.out).1; omega) | simpa using h_) (seg := [.int .i64 t298, .int .i64 t299]) (j := 0) hcl19 hcc19 (show 2 ≤ 2 from by decide) (x' := (⟨t298, t299⟩ : S50)) (k50_mkM _ _ _ (⟨t298, t299⟩ : S50) ) (fun _ hk => hk); have hx19_0 := hcc19 0 _ rfl; (try simp only [show (k50).sz = 2 from rfl, Nat.mul_one, Nat.add_zero] at hx19_0); have hf19_0 := hfr19 0; (try simp only [show (k50).sz = 2 from rfl, Nat.mul_one, Nat.add_zero] at hf19_0); have hx19_1 := hcc19 1 _ rfl; (try simp only [show (k50).sz = 2 from rfl, Nat.mul_one, Nat.add_zero] at hx19_1); have hf19_1 := hfr19 1; (try simp only [show (k50).sz = 2 from rfl, Nat.mul_one, Nat.add_zero] at hf19_1); clear hcl19 hcc19 hfr19 hM19; have hn16_0 : w18.cell? ⟨go16, l0.length * 2, none⟩ = _ := hx16_0; have hm16_0 : w18.frozen? ⟨go16, l0.length * 2, none⟩ = false := hf16_0; have hn16_1 : w18.cell? ⟨go16, l0.length * 2 + 1, none⟩ = _ := hx16_1; have hm16_1 : w18.frozen? ⟨go16, l0.length * 2 + 1, none⟩ = false := hf16_1))
                  go_ret
                  have HG_ := GB16.out
                  have hc_ : l0.length < x3_1.length := by have h_ := of_decide_eq_true c15b0; omega
                  have hr_ := Ny301.out
                  rw [Ny300.out] at hr_
                  exact ⟨go16, co16, rfl, x3_1, t298, t299, HP19.1, hr_, hc_, A13.out, HG_, (by repeat (first | exact HB.out | apply below_alloc | apply pw_below_drewN | apply below_drew1 | refine below_set ?_ HG_))⟩
                · rw [if_neg c17] at H
                  exact absurd H (by simp)
              · rw [if_neg c15] at H
                exact absurd H (by simp)
            · rw [if_neg c14] at H
              exact absurd H (by simp)
    · rw [if_neg c4] at H
      exact absurd H (by simp)
  · rw [if_neg c3] at H
    exact absurd H (by simp)
theorem cabstandlaw01_TwinPairs.l0_is (l : List (S50)) (hl : l.length ≤ 9223372036854775806) : ∀ m j (x : List (S50)), j + m = l.length → x.length = l.length + 1 → (∀ i, i < j → x[i]? = l[i]?) → cabstandlaw01_TwinPairs.l0 (m + 1) l x (j : Int) = some l := by
  intro m
  induction m with
  | zero =>
    intro j x hj hx h
    rw [cabstandlaw01_TwinPairs.l0, if_neg (by omega)]
    have hm : ∃ v, cabstandlaw01_markPair.f 7777 = some v := ⟨_, rfl⟩
    obtain ⟨v, hv⟩ := hm
    rw [hv, Option.bind_some, if_pos (by omega), if_pos (by omega), if_pos (by omega)]
    refine congrArg some (List.ext_getElem? (fun i => ?_))
    rw [List.getElem?_take]
    by_cases hi : i < l.length
    · rw [if_pos (by omega), List.getElem?_set_ne (by omega)]
      exact h i (by omega)
    · rw [if_neg (by omega), List.getElem?_eq_none (by omega)]
  | succ m ih =>
    intro j x hj hx h
    rw [cabstandlaw01_TwinPairs.l0, if_pos (by omega), if_pos (by omega), if_pos (by omega)]
    have e3 : wrap64 ((j : Int) + 1) = ((j + 1 : Nat) : Int) := by unfold wrap64; omega
    rw [e3]
    refine ih (j + 1) _ (by omega) (by rw [List.length_set]; exact hx) (fun i hi => ?_)
    by_cases hij : i = j
    · subst hij
      have hil : i < l.length := by omega
      rw [Int.toNat_natCast, List.getElem?_set_self (by omega)]
      have e : (⟨(rd_T50 l (i : Int)).f0, (rd_T50 l (i : Int)).f1⟩ : S50) = l[i] := by simp [rd_T50, List.getD, hil]
      rw [e, List.getElem?_eq_getElem hil]
    · rw [Int.toNat_natCast, List.getElem?_set_ne (by omega)]
      exact h i (by omega)
theorem cabstandlaw01_TwinPairs.f_is (l : List (S50)) (hl : l.length + 1 ≤ 17592186044416) : cabstandlaw01_TwinPairs.f (l.length + 1) l = some l := by
  have e3 : wrap64 ((l.length : Int) + 1) = ((l.length + 1 : Nat) : Int) := by unfold wrap64; omega
  unfold cabstandlaw01_TwinPairs.f
  rw [e3, if_pos (by omega), if_pos (by omega)]
  exact cabstandlaw01_TwinPairs.l0_is l (by omega) l.length 0 _ (by omega) (by simp) (fun i hi => absurd hi (by omega))

end Go.Proofs.Ytmdidgdcdlodlaa.Q
/- The copy that cabstandlaw01_TwinInts makes, with the mark behind it. Written by wip/gen/marks.py out of the printed walk. -/
namespace Go.Proofs.Ytmdidgdcdlodlaa.Q
open Go.RowKit Go.Proofs.YtmdidgdcdlodlaaW.PrintWords Go.Proofs.YtmdidgdcdlodlaaW.PrintLast Go.Proofs.YtmdidgdcdlodlaaW.PrintMore
attribute [local go_sem] max2_int min2_int max_two min_two max_three min_three max_four min_four   -- for this text's walks alone
set_option linter.unusedVariables false
set_option linter.unusedSimpArgs false

/-! ### cabstandlaw01_TwinInts: function 22 -/
def cabstandlaw01_TwinInts.l0 : Nat → List Int → List Int → Int → Option (List Int)
  | 0, _, _, _ => none
  | k + 1, x0, x3, x4 => if x4 < (x0.length : Int) then (if 0 ≤ x4 then (if x4 < (x3.length : Int) then (cabstandlaw01_TwinInts.l0 k x0 (x3.set (x4 : Int).toNat (rd x0 x4)) (wrap64 (x4 + 1))) else (none)) else (none)) else ((cabstandlaw01_markInt.f 7777).bind fun t309 => (if 0 ≤ (x0.length : Int) then (if (x0.length : Int) < (x3.length : Int) then (if (x0.length : Int) ≤ (x3.length : Int) then (some ((x3.set ((x0.length : Int) : Int).toNat t309).take ((x0.length : Int) : Int).toNat)) else (none)) else (none)) else (none)))
def cabstandlaw01_TwinInts.f (k : Nat) (l0 : List Int) : Option (List Int) := if 0 ≤ (wrap64 ((l0.length : Int) + 1)) then (if (wrap64 ((l0.length : Int) + 1) : Int).toNat ≤ 35184372088832 then (cabstandlaw01_TwinInts.l0 k l0 (List.replicate (wrap64 ((l0.length : Int) + 1) : Int).toNat 0) 0) else (none)) else (none)
theorem cabstandlaw01_TwinInts.mono_l : ∀ k, (∀ y0 y1 y2, LeO (cabstandlaw01_TwinInts.l0 k y0 y1 y2) (cabstandlaw01_TwinInts.l0 (k + 1) y0 y1 y2))
  | 0 => fun _ _ _ r h => by simp [cabstandlaw01_TwinInts.l0] at h
  | k + 1 => by
    have ih0 := cabstandlaw01_TwinInts.mono_l k
    · intro y0 y1 y2
      unfold cabstandlaw01_TwinInts.l0
      repeat' first
      | (with_reducible exact ih0 _ _ _)
      | (with_reducible exact LeO.refl _)
      | (with_reducible exact LeO.none _)
      | (with_reducible refine LeO.ite ?_ ?_)
      | (with_reducible refine LeO.bind ?_ (fun _ => ?_))
      | exact ih0 _ _ _
      | exact LeO.none _
      | refine LeO.ite ?_ ?_
      | refine LeO.bind ?_ (fun _ => ?_)
theorem cabstandlaw01_TwinInts.mono : ∀ a0 k, LeO (cabstandlaw01_TwinInts.f k a0) (cabstandlaw01_TwinInts.f (k + 1) a0) := by
  intro a0 k
  have ih0 := cabstandlaw01_TwinInts.mono_l k
  unfold cabstandlaw01_TwinInts.f
  repeat' first
      | (with_reducible exact ih0 _ _ _)
      | (with_reducible exact LeO.refl _)
      | (with_reducible exact LeO.none _)
      | (with_reducible refine LeO.ite ?_ ?_)
      | (with_reducible refine LeO.bind ?_ (fun _ => ?_))
      | exact ih0 _ _ _
      | exact LeO.none _
      | refine LeO.ite ?_ ?_
      | refine LeO.bind ?_ (fun _ => ?_)
set_option maxHeartbeats 8000000 in
set_option maxRecDepth 100000 in
theorem cabstandlaw01_TwinInts.marks (k : Nat) (A0 : Option Addr) (c0 : Nat) (l0 : List Int) (r : List Int) (w : World) (hr0 : Kd.C (Kd.int .i64) w A0 l0.length l0) (hc0 : l0.length ≤ c0) (h : cabstandlaw01_TwinInts.f k l0 = some r) :
    Calls Try.prog 22 #[.slice A0 l0.length c0] w fun e w' => ∃ (go co : Nat) (x : List Int) (m0 : Int), e = .returned (.slice (some ⟨go, 0, none⟩) l0.length co) ∧ Kd.R (Kd.int .i64) 3 w' w.heap.size (fun _ => True) (.slice (some ⟨go, 0, none⟩) x.length co) (x.set l0.length m0) ∧ r = (x.set l0.length m0).take l0.length ∧ l0.length < x.length ∧ cabstandlaw01_markInt.f 7777 = some m0 ∧ w.heap.size ≤ go ∧ Below w.heap.size w w' := by
  have HR0 := Aside0.mk hr0
  have HC0 := Aside0.mk hc0
  clear hr0 hc0
  have HB := Aside0.mk (Below.refl w.heap.size w)
  have H : (if 0 ≤ (wrap64 ((l0.length : Int) + 1)) then (if (wrap64 ((l0.length : Int) + 1) : Int).toNat ≤ 35184372088832 then (cabstandlaw01_TwinInts.l0 k l0 (List.replicate (wrap64 ((l0.length : Int) + 1) : Int).toNat 0) 0) else (none)) else (none)) = some r := h
  clear h
  obtain ⟨ji2, hji2⟩ : ∃ j_ : Int, (wrap64 ((l0.length : Int) + 1)) = j_ := ⟨_, rfl⟩
  replace H : (if 0 ≤ (ji2) then (if (ji2 : Int).toNat ≤ 35184372088832 then (cabstandlaw01_TwinInts.l0 k l0 (List.replicate (ji2 : Int).toNat 0) 0) else (none)) else (none)) = some r := by first | (rw [hji2] at H; exact H) | (simp only [hji2] at H ⊢; exact H)
  have hji2w : (IntKind.i64.wrap ((l0.length : Int) + 1)) = ji2 := (i64_w _).trans hji2
  by_cases c3 : 0 ≤ (ji2)
  · rw [if_pos c3] at H
    have c3b0 := eq_true c3
    have c3b1 : decide (0 ≤ (ji2)) = true := decide_eq_true c3
    clear c3
    by_cases c4 : (ji2 : Int).toNat ≤ 35184372088832
    · rw [if_pos c4] at H
      have c4b0 := eq_true c4
      have c4b1 : decide ((ji2 : Int).toNat ≤ 35184372088832) = true := decide_eq_true c4
      clear c4
      obtain ⟨y304, hy304⟩ : ∃ y_ : List Int, y_ = (List.replicate (ji2 : Int).toNat 0) := ⟨_, rfl⟩
      replace H : (cabstandlaw01_TwinInts.l0 k l0 y304 0) = some r := by first | (rw [hy304]; with_reducible exact H) | (have H2_ := (Option.bind_some _ _).symm.trans H; rw [hy304]; with_reducible exact H2_) | (have H2_ := (Option.bind_some _ _).symm.trans H; with_reducible exact H2_) | with_reducible exact H | (rw [hy304]; exact H) | exact H
      have Ny304 := Aside0.mk hy304
      clear hy304
      have H' := Aside0.mk H
      clear H
      go_enter Try.func22, Try.ntmps22
      go_wp2_with (first | ((with_reducible refine gate_dst (N := 8) rfl ?_); refine Kd.R_make (Kd.int .i64) _ 3 rfl (N := 8) rfl 26 _ _ rfl ji2 rfl rfl Try.underlying26 (.int .i64 0) 8 info3 rfl (by decide) (by omega) 0 (ok := fun _ => True) (okp := fun _ => True) rfl (fun _ hk => hk) trivial (of_decide_eq_true (by first | (with_reducible assumption) | assumption)) (Nat.le_trans (Nat.mul_le_mul_right _ (of_decide_eq_true (by first | (with_reducible assumption) | assumption) : ji2.toNat ≤ 35184372088832)) (by omega)) (Below.refl _ _) (Nat.le_refl _) ?_; intro v305 w5 ho6 hb hg_ hnew_; clear hg_ hnew_; (first | rw [← Ny304.out] at ho6 | (simp only [Int.reduceToNat] at ho6; rw [← Ny304.out] at ho6)); have n0_ := Aside0.mk (Kd.R_lower ho6 (below_size (by repeat (first | (with_reducible first | exact HB.out | apply below_alloc | apply pw_below_drewN | apply below_drew1) | exact HB.out)))); have n1_ := Aside0.mk (below_step (by repeat (first | (with_reducible first | exact HB.out | apply below_alloc | apply pw_below_drewN | apply below_drew1) | exact HB.out)) hb); clear HB; have HO306 := n0_; have HB := n1_; clear n0_ n1_; clear hb ho6))
      go_loopg [4] k (fun kq v4 w' => ∃ (x3_1 : List Int) (x4_1 : Int), v4 = .int .i64 x4_1 ∧ Aside0 (cabstandlaw01_TwinInts.l0 kq l0 x3_1 x4_1 = some r) ∧ Aside0 (kq ≤ k) ∧ Aside0 (Kd.R (Kd.int .i64) 3 w' w.heap.size (fun _ => True) v305 x3_1) ∧ Aside0 (Below w.heap.size w w'))
      case atStart => exact ⟨(y304), (0), (by first | rfl | (simp; done) | (simp [*]; done)), H', ⟨Nat.le_refl _⟩, ⟨by (with_reducible repeat (first | apply Kd.R_alloc | apply Kd.R_drewN | apply Kd.R_drew)); exact HO306.out⟩, ⟨by repeat (first | (with_reducible first | exact HB.out | apply below_alloc | apply pw_below_drewN | apply below_drew1) | exact HB.out)⟩⟩
      case round =>
        clear H'
        try clear c2
        try clear p2
        try clear c3
        try clear c3b0
        try clear c3b1
        try clear c4
        try clear c4b0
        try clear c4b1
        try clear p6
        obtain ⟨x3_1, x4_1, rfl, HA, HK1, HO_3, HB⟩ := hrel
        cases gk with
        | zero => exact absurd HA.out (by simp [cabstandlaw01_TwinInts.l0])
        | succ k1 =>
          have H := HA.out
          clear HA
          simp only [cabstandlaw01_TwinInts.l0] at H
          by_cases c7 : x4_1 < (l0.length : Int)
          · rw [if_pos c7] at H
            have c7b0 : decide (x4_1 < (l0.length : Int)) = true := decide_eq_true c7
            clear c7
            by_cases c8 : 0 ≤ x4_1
            · rw [if_pos c8] at H
              have c8b0 : decide (0 ≤ x4_1) = true := decide_eq_true c8
              clear c8
              by_cases c9 : x4_1 < (x3_1.length : Int)
              · rw [if_pos c9] at H
                have c9b0 : decide (x4_1 < (x3_1.length : Int)) = true := decide_eq_true c9
                clear c9
                obtain ⟨y308, hy308⟩ : ∃ y_ : List Int, y_ = (x3_1.set (x4_1 : Int).toNat (rd l0 x4_1)) := ⟨_, rfl⟩
                replace H : (cabstandlaw01_TwinInts.l0 k1 l0 y308 (wrap64 (x4_1 + 1))) = some r := by first | (rw [hy308]; with_reducible exact H) | (have H2_ := (Option.bind_some _ _).symm.trans H; rw [hy308]; with_reducible exact H2_) | (have H2_ := (Option.bind_some _ _).symm.trans H; with_reducible exact H2_) | with_reducible exact H | (rw [hy308]; exact H) | exact H
                have Ny308 := Aside0.mk hy308
                clear hy308
                have H' := Aside0.mk H
                clear H
                have p307 : 0 ≤ (x4_1 : Int) := of_decide_eq_true (by first | (with_reducible assumption) | assumption)
                have q307 : x4_1 < (l0.length : Int) := of_decide_eq_true (by first | (with_reducible assumption) | assumption)
                obtain ⟨ad307, e307, hx307_0⟩ := Kd.at_int HR0.out x4_1 p307 q307
                cases e307
                replace hx307_0 := (HB.out.cell (World.block_lt_of_cell? w _ hx307_0)).trans hx307_0
                replace p307 := eq_true p307
                replace q307 := eq_true q307
                have p10 : 0 ≤ (x4_1 : Int) := of_decide_eq_true (by first | (with_reducible assumption) | assumption)
                have q10 : (x4_1 : Int) < ((x3_1.length : Int) : Int) := of_decide_eq_true (by first | (with_reducible assumption) | assumption)
                obtain ⟨go10, co10, eo10, gb10, gl10, cl10, HG10⟩ := Kd.R_form HO_3.out (by omega)
                (first | cases eo10 | (injection eo10 with ea_ en_ ec_; (first | subst ea_ | (injection ea_ with ea_; subst ea_)); subst ec_; clear en_))
                have GB10 := Aside0.mk gb10
                have GG10 := Aside0.mk HG10
                clear gb10 gl10 HG10
                obtain ⟨hx10_0, hf10_0⟩ := Kd.R_celln 0 HO_3.out (x4_1 : Int) p10 q10
                replace p10 := eq_true p10
                replace q10 := eq_true q10
                have HP11 := Kd.R_putg HO_3.out (x4_1 : Int) (rd l0 x4_1)
                go_wp2_with (first | ((with_reducible refine gate_store (t := 3) (p := 21) rfl ?_); refine store_event (t := 3) (p := 21) (v := ?vo_w12) (w1 := (wr.setCell ⟨go10, (x4_1 : Int).toNat, none⟩ (.int .i64 (rd l0 x4_1)))) ?hg ?ho ?hn ?hr ?_; (case ho => rfl); (case hg => rfl); (case hn => rfl); (case hr => first | (go_simp; done) | (go_simp; rfl)); intro w12 hw; have hg : wr.grownBy w12 (some go10) := (by rw [hw]; exact HP11.2); have hp_ : Kd.R (Kd.int .i64) 3 w12 w.heap.size (fun _ => True) (.slice (some ⟨go10, 0, none⟩) x3_1.length co10) y308 := (by rw [hw, Ny308.out]; exact HP11.1); clear HP11; have n0_ := Aside0.mk (hp_); have n1_ := Aside0.mk ((by rw [hw]; exact below_set (HB.out) GB10.out : Below w.heap.size w w12)); clear HO_3; clear HB; have HO_3 := n0_; have HB := n1_; clear n0_ n1_; clear hg hw hp_))
                go_roundg k1
                case measure => have := HK1.out; omega
                case rel => exact ⟨(y308), (wrap64 (x4_1 + 1)), (by first | rfl | (simp; done) | (simp [*]; done)), H', ⟨by have := HK1.out; omega⟩, ⟨by (with_reducible repeat (first | apply Kd.R_alloc | apply Kd.R_drewN | apply Kd.R_drew)); exact HO_3.out⟩, ⟨by repeat (first | (with_reducible first | exact HB.out | apply below_alloc | apply pw_below_drewN | apply below_drew1) | exact HB.out)⟩⟩
              · rw [if_neg c9] at H
                exact absurd H (by simp)
            · rw [if_neg c8] at H
              exact absurd H (by simp)
          · rw [if_neg c7] at H
            have c7b0 : decide (x4_1 < (l0.length : Int)) = false := decide_eq_false c7
            clear c7
            replace H := Option.bind_eq_some_iff.mp H
            obtain ⟨t309, A130, H⟩ := H
            replace H : (if 0 ≤ (l0.length : Int) then (if (l0.length : Int) < (x3_1.length : Int) then (if (l0.length : Int) ≤ (x3_1.length : Int) then (some ((x3_1.set ((l0.length : Int) : Int).toNat t309).take ((l0.length : Int) : Int).toNat)) else (none)) else (none)) else (none)) = some r := H
            have A13 := Aside0.mk A130
            clear A130
            by_cases c14 : 0 ≤ (l0.length : Int)
            · rw [if_pos c14] at H
              have c14b0 : decide (0 ≤ (l0.length : Int)) = true := decide_eq_true c14
              have c14b1 : decide (0 ≤ l0.length) = true := decide_eq_true (by omega)
              clear c14
              by_cases c15 : (l0.length : Int) < (x3_1.length : Int)
              · rw [if_pos c15] at H
                have c15b0 : decide ((l0.length : Int) < (x3_1.length : Int)) = true := decide_eq_true c15
                have c15b1 : decide (l0.length < x3_1.length) = true := decide_eq_true (Int.ofNat_lt.mp c15)
                clear c15
                obtain ⟨y310, hy310⟩ : ∃ y_ : List Int, y_ = (x3_1.set ((l0.length : Int) : Int).toNat t309) := ⟨_, rfl⟩
                replace H : (if (l0.length : Int) ≤ (x3_1.length : Int) then (some (y310.take ((l0.length : Int) : Int).toNat)) else (none)) = some r := by first | (rw [hy310]; with_reducible exact H) | (have H2_ := (Option.bind_some _ _).symm.trans H; rw [hy310]; with_reducible exact H2_) | (have H2_ := (Option.bind_some _ _).symm.trans H; with_reducible exact H2_) | with_reducible exact H | (rw [hy310]; exact H) | exact H
                have Ny310 := Aside0.mk hy310
                clear hy310
                by_cases c17 : (l0.length : Int) ≤ (x3_1.length : Int)
                · rw [if_pos c17] at H
                  have c17b0 := eq_true c17
                  have c17b1 : decide ((l0.length : Int) ≤ (x3_1.length : Int)) = true := decide_eq_true c17
                  clear c17
                  obtain ⟨y311, hy311⟩ : ∃ y_ : List Int, y_ = (y310.take ((l0.length : Int) : Int).toNat) := ⟨_, rfl⟩
                  replace H : (some y311) = some r := by first | (rw [hy311]; with_reducible exact H) | (have H2_ := (Option.bind_some _ _).symm.trans H; rw [hy311]; with_reducible exact H2_) | (have H2_ := (Option.bind_some _ _).symm.trans H; with_reducible exact H2_) | with_reducible exact H | (rw [hy311]; exact H) | exact H
                  have Ny311 := Aside0.mk hy311
                  clear hy311
                  obtain rfl := Option.some.inj H
                  have hle0_ : l0.length < x3_1.length := by have h_ := of_decide_eq_true c15b0; omega
                  obtain ⟨go16, co16, eo16, gb16, gl16, cl16, HG16⟩ := Kd.R_form HO_3.out (by omega)
                  subst eo16
                  have GB16 := Aside0.mk gb16
                  have hle1_ : x3_1.length ≤ co16 := (Kd.R_reads' HO_3.out).2.1
                  have hle2_ : l0.length ≤ co16 := by omega
                  have hle3_ : (l0.length : Int) ≤ (co16 : Int) := by omega
                  clear gb16 gl16 HG16 hle1_
                  go_wp2_with (first | ((with_reducible refine gate_callee (f := 44) rfl ?_); refine goesL_ (some 25) rfl rfl Try.func44 (by kernel_rfl) rfl #[.int .i64 7777] rfl (by (try simp only [List.map_toArray, List.map_cons, List.map_nil]); first | done | rfl | (simp only [List.length_drop, List.length_take]; rfl)) ?_; (with_reducible refine (cabstandlaw01_markInt.calls 7777 t309 _ A13.out).mono ?_); rintro e w' ⟨rfl, ⟨nd, rfl⟩⟩; refine ⟨_, rfl, ?_⟩; (try (rw [drewN_self wr]; generalize hq_ : World.drewN wr _ = wr; have n0_ : Aside0 (Kd.R (Kd.int .i64) 3 wr w.heap.size (fun _ => True) v305 x3_1) := ⟨by rw [← hq_]; exact (by (with_reducible repeat (first | apply Kd.R_alloc | apply Kd.R_drewN | apply Kd.R_drew)); exact HO_3.out)⟩; have n1_ : Aside0 (Below w.heap.size w wr) := ⟨by rw [← hq_]; exact (by repeat (first | (with_reducible first | exact HB.out | apply below_alloc | apply pw_below_drewN | apply below_drew1) | exact HB.out))⟩; clear HO_3 HB hq_; have HO_3 := n0_; have HB := n1_; clear n0_ n1_)); have p16 : 0 ≤ ((l0.length : Int) : Int) := of_decide_eq_true (by first | (with_reducible assumption) | assumption); have q16 : ((l0.length : Int) : Int) < ((x3_1.length : Int) : Int) := of_decide_eq_true (by first | (with_reducible assumption) | assumption); obtain ⟨hx16_0, hf16_0⟩ := Kd.R_celln 0 HO_3.out ((l0.length : Int) : Int) p16 q16; replace p16 := eq_true p16; replace q16 := eq_true q16; obtain ⟨hy18_, hz18_⟩ := Kd.R_celln 0 HO_3.out ((l0.length : Int) : Int) (of_decide_eq_true (by first | (with_reducible assumption) | assumption)) (of_decide_eq_true (by first | (with_reducible assumption) | assumption)); (try simp only [Go.IntWalk.toNatUp] at hy18_ hz18_); have HP18 := Kd.R_putg HO_3.out ((l0.length : Int) : Int) t309))
                  go_ret
                  have HG_ := GB16.out
                  have hc_ : l0.length < x3_1.length := by have h_ := of_decide_eq_true c15b0; omega
                  have hr_ := Ny311.out
                  rw [Ny310.out] at hr_
                  exact ⟨go16, co16, rfl, x3_1, t309, (Kd.R_putg (by (with_reducible repeat (first | apply Kd.R_alloc | apply Kd.R_drewN | apply Kd.R_drew)); exact HO_3.out) ((l0.length : Int) : Int) t309).1, hr_, hc_, A13.out, HG_, (by repeat (first | exact HB.out | apply below_alloc | apply pw_below_drewN | apply below_drew1 | refine below_set ?_ HG_))⟩
                · rw [if_neg c17] at H
                  exact absurd H (by simp)
              · rw [if_neg c15] at H
                exact absurd H (by simp)
            · rw [if_neg c14] at H
              exact absurd H (by simp)
    · rw [if_neg c4] at H
      exact absurd H (by simp)
  · rw [if_neg c3] at H
    exact absurd H (by simp)
theorem cabstandlaw01_TwinInts.l0_is (l : List Int) (hl : l.length ≤ 9223372036854775806) : ∀ m j (x : List Int), j + m = l.length → x.length = l.length + 1 → (∀ i, i < j → x[i]? = l[i]?) → cabstandlaw01_TwinInts.l0 (m + 1) l x (j : Int) = some l := by
  intro m
  induction m with
  | zero =>
    intro j x hj hx h
    rw [cabstandlaw01_TwinInts.l0, if_neg (by omega)]
    have hm : ∃ v, cabstandlaw01_markInt.f 7777 = some v := ⟨_, rfl⟩
    obtain ⟨v, hv⟩ := hm
    rw [hv, Option.bind_some, if_pos (by omega), if_pos (by omega), if_pos (by omega)]
    refine congrArg some (List.ext_getElem? (fun i => ?_))
    rw [List.getElem?_take]
    by_cases hi : i < l.length
    · rw [if_pos (by omega), List.getElem?_set_ne (by omega)]
      exact h i (by omega)
    · rw [if_neg (by omega), List.getElem?_eq_none (by omega)]
  | succ m ih =>
    intro j x hj hx h
    rw [cabstandlaw01_TwinInts.l0, if_pos (by omega), if_pos (by omega), if_pos (by omega)]
    have e3 : wrap64 ((j : Int) + 1) = ((j + 1 : Nat) : Int) := by unfold wrap64; omega
    rw [e3]
    refine ih (j + 1) _ (by omega) (by rw [List.length_set]; exact hx) (fun i hi => ?_)
    by_cases hij : i = j
    · subst hij
      have hil : i < l.length := by omega
      rw [Int.toNat_natCast, List.getElem?_set_self (by omega)]
      have e : (rd l (i : Int)) = l[i] := by simp [rd, List.getD, hil]
      rw [e, List.getElem?_eq_getElem hil]
    · rw [Int.toNat_natCast, List.getElem?_set_ne (by omega)]
      exact h i (by omega)
theorem cabstandlaw01_TwinInts.f_is (l : List Int) (hl : l.length + 1 ≤ 35184372088832) : cabstandlaw01_TwinInts.f (l.length + 1) l = some l := by
  have e3 : wrap64 ((l.length : Int) + 1) = ((l.length + 1 : Nat) : Int) := by unfold wrap64; omega
  unfold cabstandlaw01_TwinInts.f
  rw [e3, if_pos (by omega), if_pos (by omega)]
  exact cabstandlaw01_TwinInts.l0_is l (by omega) l.length 0 _ (by omega) (by simp) (fun i hi => absurd hi (by omega))

end Go.Proofs.Ytmdidgdcdlodlaa.Q
/- Copies with a mark behind them (pairs, edges, whole numbers), graphs and certificates of such; and whether they are as they were. Conditions: those that stand in each theorem. Written in this session. -/
namespace Go.Proofs.Ytmdidgdcdlodlaa.Q
open Go.RowKit Go.Proofs.YtmdidgdcdlodlaaW.PrintWords Go.Proofs.YtmdidgdcdlodlaaW.PrintLast Go.Proofs.YtmdidgdcdlodlaaW.PrintMore
set_option linter.unusedVariables false
/-- a copy of l at block go, the mark m behind it -/
structure Marked {α : Type} (d : Kd α) (ty : Nat) (w : World) (base go co : Nat) (l : List α) (m : α) : Prop where
  row : ∃ y : List α, Kd.R d ty w base (fun _ => True) (.slice (some ⟨go, 0, none⟩) y.length co) y ∧ y.take l.length = l ∧ y[l.length]? = some m
  ge : base ≤ go
theorem Marked.below {α : Type} {d : Kd α} {ty : Nat} {w w' : World} {base go co : Nat} {l : List α} {m : α} (h : Marked d ty w base go co l m) (hb : Below w.heap.size w w') : Marked d ty w' base go co l m := by
  obtain ⟨⟨y, h1, h2, h3⟩, h4⟩ := h
  exact ⟨⟨y, Kd.R_below h1 hb, h2, h3⟩, h4⟩
theorem Marked.lower {α : Type} {d : Kd α} {ty : Nat} {w : World} {base base' go co : Nat} {l : List α} {m : α} (h : Marked d ty w base go co l m) (hb : base' ≤ base) : Marked d ty w base' go co l m := by
  obtain ⟨⟨y, h1, h2, h3⟩, h4⟩ := h
  exact ⟨⟨y, Kd.R_lower h1 hb, h2, h3⟩, Nat.le_trans hb h4⟩
theorem Marked.lt {α : Type} {d : Kd α} {ty : Nat} {w : World} {base go co : Nat} {l : List α} {m : α} (h : Marked d ty w base go co l m) : l.length < co := by
  obtain ⟨⟨y, h1, h2, h3⟩, h4⟩ := h
  have h5 := (List.getElem?_eq_some_iff.1 h3).1
  have := (Kd.R_reads' h1).2.1
  omega
theorem Marked.reads {α : Type} {d : Kd α} {ty : Nat} {w : World} {base go co : Nat} {l : List α} {m : α} (h : Marked d ty w base go co l m) : Kd.C d w (some ⟨go, 0, none⟩) l.length l := by
  obtain ⟨⟨y, h1, h2, h3⟩, h4⟩ := h
  have h5 := (List.getElem?_eq_some_iff.1 h3).1
  have h6 := Kd.R_take (m := l.length) h1 (by omega)
  rw [h2] at h6
  exact (Kd.R_reads' h6).2.2
theorem marked_mk {α : Type} {d : Kd α} {ty : Nat} {w : World} {base go co : Nat} {l x : List α} {m : α} (h1 : Kd.R d ty w base (fun _ => True) (.slice (some ⟨go, 0, none⟩) x.length co) (x.set l.length m)) (h2 : l = (x.set l.length m).take l.length) (h3 : l.length < x.length) (h4 : base ≤ go) : Marked d ty w base go co l m :=
  ⟨⟨x.set l.length m, by rw [List.length_set]; exact h1, h2.symm, by rw [List.getElem?_set_self h3]⟩, h4⟩
theorem markEdge_is : cabstandlaw01_markEdge.f 7777 = some (0, 0, -8777) := by decide +kernel
theorem twinEdges_calls (A0 : Option Addr) (c0 : Nat) (l0 : List S69) (w : World) (hr0 : Kd.C k69 w A0 l0.length l0) (hc0 : l0.length ≤ c0) (hl : l0.length ≤ 1048576) :
    Calls Try.prog 29 #[.slice A0 l0.length c0] w fun e w' => ∃ go co, e = .returned (.slice (some ⟨go, 0, none⟩) l0.length co) ∧ Marked k69 69 w' w.heap.size go co l0 (⟨0, 0, -8777⟩ : S69) ∧ Below w.heap.size w w' := by
  refine (cabstandlaw01_TwinEdges.marks (l0.length + 1) A0 c0 l0 l0 w hr0 hc0 (cabstandlaw01_TwinEdges.f_is l0 (by omega))).mono ?_
  rintro e w' ⟨go, co, x, m0, m1, m2, rfl, h1, h2, h3, h4, h5, h6⟩
  rw [markEdge_is] at h4
  cases h4
  exact ⟨go, co, rfl, marked_mk h1 h2 h3 h5, h6⟩
theorem markPair_is : cabstandlaw01_markPair.f 7777 = some (-8777, 0) := by decide +kernel
theorem twinPairs_calls (A0 : Option Addr) (c0 : Nat) (l0 : List S50) (w : World) (hr0 : Kd.C k50 w A0 l0.length l0) (hc0 : l0.length ≤ c0) (hl : l0.length ≤ 1048576) :
    Calls Try.prog 18 #[.slice A0 l0.length c0] w fun e w' => ∃ go co, e = .returned (.slice (some ⟨go, 0, none⟩) l0.length co) ∧ Marked k50 50 w' w.heap.size go co l0 (⟨-8777, 0⟩ : S50) ∧ Below w.heap.size w w' := by
  refine (cabstandlaw01_TwinPairs.marks (l0.length + 1) A0 c0 l0 l0 w hr0 hc0 (cabstandlaw01_TwinPairs.f_is l0 (by omega))).mono ?_
  rintro e w' ⟨go, co, x, m0, m1, rfl, h1, h2, h3, h4, h5, h6⟩
  rw [markPair_is] at h4
  cases h4
  exact ⟨go, co, rfl, marked_mk h1 h2 h3 h5, h6⟩
theorem markInt_is : cabstandlaw01_markInt.f 7777 = some (-8777) := by decide +kernel
theorem twinInts_calls (A0 : Option Addr) (c0 : Nat) (l0 : List Int) (w : World) (hr0 : Kd.C (Kd.int .i64) w A0 l0.length l0) (hc0 : l0.length ≤ c0) (hl : l0.length ≤ 1048576) :
    Calls Try.prog 22 #[.slice A0 l0.length c0] w fun e w' => ∃ go co, e = .returned (.slice (some ⟨go, 0, none⟩) l0.length co) ∧ Marked (Kd.int .i64) 3 w' w.heap.size go co l0 (-8777 : Int) ∧ Below w.heap.size w w' := by
  refine (cabstandlaw01_TwinInts.marks (l0.length + 1) A0 c0 l0 l0 w hr0 hc0 (cabstandlaw01_TwinInts.f_is l0 (by omega))).mono ?_
  rintro e w' ⟨go, co, x, m0, rfl, h1, h2, h3, h4, h5, h6⟩
  rw [markInt_is] at h4
  cases h4
  exact ⟨go, co, rfl, marked_mk h1 h2 h3 h5, h6⟩
theorem sameEdges_l0 (l : List S69) (hl : l.length ≤ 9223372036854775806) : ∀ m j, j + m = l.length → cabstandlaw01_SameEdges.l0 (m + 1) l l (j : Int) = some true := by
  intro m
  induction m with
  | zero =>
    intro j hj
    rw [cabstandlaw01_SameEdges.l0, if_neg (by omega)]
  | succ m ih =>
    intro j hj
    rw [cabstandlaw01_SameEdges.l0, if_pos (by omega), if_pos (by omega), if_pos (by omega), if_neg (by simp)]
    have e3 : wrap64 ((j : Int) + 1) = ((j + 1 : Nat) : Int) := by unfold wrap64; omega
    rw [e3]
    exact ih (j + 1) (by omega)
theorem sameEdges_f (l : List S69) (hl : l.length ≤ 9223372036854775806) : cabstandlaw01_SameEdges.f (l.length + 1) l l = some true := by
  unfold cabstandlaw01_SameEdges.f
  rw [if_pos rfl]
  exact sameEdges_l0 l hl l.length 0 (by omega)
theorem markEdges_cells {w : World} {base go co : Nat} {l : List S69} (h : Marked k69 69 w base go co l (⟨0, 0, -8777⟩ : S69)) : w.cell? ⟨go, l.length * 3, none⟩ = some (.int .i64 (0)) ∧ w.cell? ⟨go, l.length * 3 + 1, none⟩ = some (.int .i64 (0)) ∧ w.cell? ⟨go, l.length * 3 + 2, none⟩ = some (.int .i64 (-8777)) := by
  obtain ⟨⟨y, h1, h2, h3⟩, h4⟩ := h
  have h5 := (List.getElem?_eq_some_iff.1 h3).1
  obtain ⟨a, ha, hk⟩ := (Kd.R_reads' h1).2.2.2.2 (by omega)
  cases ha
  obtain ⟨us, k1, k2, k3⟩ := hk l.length _ h3
  have k4 := k69_open k2
  subst k4
  exact ⟨by have q := k3 0 _ rfl; rw [add_plain] at q; simpa [show (k69).sz = 3 from rfl] using q, by have q := k3 1 _ rfl; rw [add_plain] at q; simpa [show (k69).sz = 3 from rfl] using q, by have q := k3 2 _ rfl; rw [add_plain] at q; simpa [show (k69).sz = 3 from rfl] using q⟩
set_option maxHeartbeats 8000000 in
set_option maxRecDepth 100000 in
theorem leftEdges_calls (base go co : Nat) (l : List S69) (A1 : Option Addr) (c1 : Nat) (w : World) (hm : Marked k69 69 w base go co l (⟨0, 0, -8777⟩ : S69)) (hr1 : Kd.C k69 w A1 l.length l) (hc1 : l.length ≤ c1) (hl : l.length ≤ 1048576) :
    Calls Try.prog 37 #[.slice (some ⟨go, 0, none⟩) l.length co, .slice A1 l.length c1] w fun e w' => e = .returned (.bool true) ∧ Below w.heap.size w w' := by
  have HM := Aside0.mk hm
  have HR1 := Aside0.mk hr1
  have HC1 := Aside0.mk hc1
  have HL := Aside0.mk hl
  have hlt := hm.lt
  have hle2 : (l.length : Int) + 1 ≤ (co : Int) := by omega
  have hle3 : (l.length : Int) + 1 ≤ 9223372036854775807 := by omega
  clear hm hr1 hc1 hl hlt
  go_enter Try.func37, Try.ntmps37
  go_wp2_with fail
  refine (cabstandlaw01_SameEdges.calls (l.length + 1) (some ⟨go, 0, none⟩) co l A1 c1 l true w HM.out.reads (by have := HM.out.lt; omega) HR1.out HC1.out (sameEdges_f l (by have := HL.out; omega))).mono ?_
  rintro e w1 ⟨rfl, hd⟩
  have hb : Below w.heap.size w w1 := by obtain ⟨n, rfl⟩ := hd; exact pw_below_drewN (Below.refl _ _) _
  obtain ⟨q0, q1, q2⟩ := markEdges_cells (HM.out.below hb)
  have g0 : w1.cell? ⟨go, l.length * 3, none⟩ = some (.int .i64 (0)) := q0
  have g1 : w1.cell? ⟨go, l.length * 3 + 1, none⟩ = some (.int .i64 (0)) := q1
  have g2 : w1.cell? ⟨go, l.length * 3 + 2, none⟩ = some (.int .i64 (-8777)) := q2
  have HB := Aside0.mk hb
  clear hb hd q0 q1 q2
  have hlt2 : ((l.length : Int) < (l.length : Int) + 1) := by omega
  go_wp2_with fail
  refine (cabstandlaw01_isEdge.calls (0) (0) (-8777) 7777 true _ (by decide +kernel)).mono ?_
  rintro e w2 ⟨rfl, hb⟩
  have HB2 := Aside0.mk (below_step HB.out hb)
  clear hb
  go_wp2
  go_ret
  exact ⟨rfl, HB2.out⟩
theorem samePairs_l0 (l : List S50) (hl : l.length ≤ 9223372036854775806) : ∀ m j, j + m = l.length → cabstandlaw01_SamePairs.l0 (m + 1) l l (j : Int) = some true := by
  intro m
  induction m with
  | zero =>
    intro j hj
    rw [cabstandlaw01_SamePairs.l0, if_neg (by omega)]
  | succ m ih =>
    intro j hj
    rw [cabstandlaw01_SamePairs.l0, if_pos (by omega), if_pos (by omega), if_pos (by omega), if_neg (by simp)]
    have e3 : wrap64 ((j : Int) + 1) = ((j + 1 : Nat) : Int) := by unfold wrap64; omega
    rw [e3]
    exact ih (j + 1) (by omega)
theorem samePairs_f (l : List S50) (hl : l.length ≤ 9223372036854775806) : cabstandlaw01_SamePairs.f (l.length + 1) l l = some true := by
  unfold cabstandlaw01_SamePairs.f
  rw [if_pos rfl]
  exact samePairs_l0 l hl l.length 0 (by omega)
theorem markPairs_cells {w : World} {base go co : Nat} {l : List S50} (h : Marked k50 50 w base go co l (⟨-8777, 0⟩ : S50)) : w.cell? ⟨go, l.length * 2, none⟩ = some (.int .i64 (-8777)) ∧ w.cell? ⟨go, l.length * 2 + 1, none⟩ = some (.int .i64 (0)) := by
  obtain ⟨⟨y, h1, h2, h3⟩, h4⟩ := h
  have h5 := (List.getElem?_eq_some_iff.1 h3).1
  obtain ⟨a, ha, hk⟩ := (Kd.R_reads' h1).2.2.2.2 (by omega)
  cases ha
  obtain ⟨us, k1, k2, k3⟩ := hk l.length _ h3
  have k4 := k50_open k2
  subst k4
  exact ⟨by have q := k3 0 _ rfl; rw [add_plain] at q; simpa [show (k50).sz = 2 from rfl] using q, by have q := k3 1 _ rfl; rw [add_plain] at q; simpa [show (k50).sz = 2 from rfl] using q⟩
set_option maxHeartbeats 8000000 in
set_option maxRecDepth 100000 in
theorem leftPairs_calls (base go co : Nat) (l : List S50) (A1 : Option Addr) (c1 : Nat) (w : World) (hm : Marked k50 50 w base go co l (⟨-8777, 0⟩ : S50)) (hr1 : Kd.C k50 w A1 l.length l) (hc1 : l.length ≤ c1) (hl : l.length ≤ 1048576) :
    Calls Try.prog 21 #[.slice (some ⟨go, 0, none⟩) l.length co, .slice A1 l.length c1] w fun e w' => e = .returned (.bool true) ∧ Below w.heap.size w w' := by
  have HM := Aside0.mk hm
  have HR1 := Aside0.mk hr1
  have HC1 := Aside0.mk hc1
  have HL := Aside0.mk hl
  have hlt := hm.lt
  have hle2 : (l.length : Int) + 1 ≤ (co : Int) := by omega
  have hle3 : (l.length : Int) + 1 ≤ 9223372036854775807 := by omega
  clear hm hr1 hc1 hl hlt
  go_enter Try.func21, Try.ntmps21
  go_wp2_with fail
  refine (cabstandlaw01_SamePairs.calls (l.length + 1) (some ⟨go, 0, none⟩) co l A1 c1 l true w HM.out.reads (by have := HM.out.lt; omega) HR1.out HC1.out (samePairs_f l (by have := HL.out; omega))).mono ?_
  rintro e w1 ⟨rfl, hd⟩
  have hb : Below w.heap.size w w1 := by obtain ⟨n, rfl⟩ := hd; exact pw_below_drewN (Below.refl _ _) _
  obtain ⟨q0, q1⟩ := markPairs_cells (HM.out.below hb)
  have g0 : w1.cell? ⟨go, l.length * 2, none⟩ = some (.int .i64 (-8777)) := q0
  have g1 : w1.cell? ⟨go, l.length * 2 + 1, none⟩ = some (.int .i64 (0)) := q1
  have HB := Aside0.mk hb
  clear hb hd q0 q1
  have hlt2 : ((l.length : Int) < (l.length : Int) + 1) := by omega
  go_wp2_with fail
  refine (cabstandlaw01_isPair.calls (-8777) (0) 7777 true _ (by decide +kernel)).mono ?_
  rintro e w2 ⟨rfl, hb⟩
  have HB2 := Aside0.mk (below_step HB.out hb)
  clear hb
  go_wp2
  go_ret
  exact ⟨rfl, HB2.out⟩
theorem sameInts_l0 (l : List Int) (hl : l.length ≤ 9223372036854775806) : ∀ m j, j + m = l.length → cabstandlaw01_SameInts.l0 (m + 1) l l (j : Int) = some true := by
  intro m
  induction m with
  | zero =>
    intro j hj
    rw [cabstandlaw01_SameInts.l0, if_neg (by omega)]
  | succ m ih =>
    intro j hj
    rw [cabstandlaw01_SameInts.l0, if_pos (by omega), if_pos (by omega), if_pos (by omega), if_pos rfl]
    have e3 : wrap64 ((j : Int) + 1) = ((j + 1 : Nat) : Int) := by unfold wrap64; omega
    rw [e3]
    exact ih (j + 1) (by omega)
theorem sameInts_f (l : List Int) (hl : l.length ≤ 9223372036854775806) : cabstandlaw01_SameInts.f (l.length + 1) l l = some true := by
  unfold cabstandlaw01_SameInts.f
  rw [if_pos rfl]
  exact sameInts_l0 l hl l.length 0 (by omega)
theorem markInts_cells {w : World} {base go co : Nat} {l : List Int} (h : Marked (Kd.int .i64) 3 w base go co l (-8777 : Int)) : w.cell? ⟨go, l.length, none⟩ = some (.int .i64 (-8777)) ∧ True := by
  obtain ⟨⟨y, h1, h2, h3⟩, h4⟩ := h
  have h5 := (List.getElem?_eq_some_iff.1 h3).1
  obtain ⟨a, ha, hk⟩ := (Kd.R_reads' h1).2.2.2.2 (by omega)
  cases ha
  obtain ⟨us, k1, k2, k3⟩ := hk l.length _ h3
  have k4 := (show us = [.int .i64 (-8777)] from k2)
  subst k4
  exact ⟨by have q := k3 0 _ rfl; rw [add_plain] at q; simpa [show (Kd.int .i64).sz = 1 from rfl] using q, trivial⟩
set_option maxHeartbeats 8000000 in
set_option maxRecDepth 100000 in
theorem leftInts_calls (base go co : Nat) (l : List Int) (A1 : Option Addr) (c1 : Nat) (w : World) (hm : Marked (Kd.int .i64) 3 w base go co l (-8777 : Int)) (hr1 : Kd.C (Kd.int .i64) w A1 l.length l) (hc1 : l.length ≤ c1) (hl : l.length ≤ 1048576) :
    Calls Try.prog 25 #[.slice (some ⟨go, 0, none⟩) l.length co, .slice A1 l.length c1] w fun e w' => e = .returned (.bool true) ∧ Below w.heap.size w w' := by
  have HM := Aside0.mk hm
  have HR1 := Aside0.mk hr1
  have HC1 := Aside0.mk hc1
  have HL := Aside0.mk hl
  have hlt := hm.lt
  have hle2 : (l.length : Int) + 1 ≤ (co : Int) := by omega
  have hle3 : (l.length : Int) + 1 ≤ 9223372036854775807 := by omega
  clear hm hr1 hc1 hl hlt
  go_enter Try.func25, Try.ntmps25
  go_wp2_with fail
  refine (cabstandlaw01_SameInts.calls (l.length + 1) (some ⟨go, 0, none⟩) co l A1 c1 l true w HM.out.reads (by have := HM.out.lt; omega) HR1.out HC1.out (sameInts_f l (by have := HL.out; omega))).mono ?_
  rintro e w1 ⟨rfl, hd⟩
  have hb : Below w.heap.size w w1 := by obtain ⟨n, rfl⟩ := hd; exact pw_below_drewN (Below.refl _ _) _
  obtain ⟨q0, _⟩ := markInts_cells (HM.out.below hb)
  have g0 : w1.cell? ⟨go, l.length, none⟩ = some (.int .i64 (-8777)) := q0
  have HB := Aside0.mk hb
  clear hb hd q0
  have hlt2 : ((l.length : Int) < (l.length : Int) + 1) := by omega
  go_wp2_with fail
  refine (cabstandlaw01_isInt.calls (-8777) 7777 true _ (by decide +kernel)).mono ?_
  rintro e w2 ⟨rfl, hb⟩
  have hb : Below w1.heap.size w1 w2 := by obtain ⟨n, rfl⟩ := hb; exact pw_below_drewN (Below.refl _ _) _
  have HB2 := Aside0.mk (below_step HB.out hb)
  clear hb
  go_wp2
  go_ret
  exact ⟨rfl, HB2.out⟩
end Go.Proofs.Ytmdidgdcdlodlaa.Q
/- Graphs and certificates with marks behind their lists; Beyond. -/
namespace Go.Proofs.Ytmdidgdcdlodlaa.Q
open Go.RowKit Go.Proofs.YtmdidgdcdlodlaaW.PrintWords Go.Proofs.YtmdidgdcdlodlaaW.PrintLast Go.Proofs.YtmdidgdcdlodlaaW.PrintMore
set_option linter.unusedVariables false
theorem beyond_l0 (l : List Int) (hx : ∀ x ∈ l, 0 ≤ x ∧ x ≤ 9223372036853727231) (hl : l.length ≤ 9223372036854775806) : ∀ m j (acc : Int), j + m = l.length → 0 ≤ acc → acc ≤ 1048576 → ∃ b, cabstandlaw01_Beyond.l0 (m + 1) l acc (j : Int) = some b ∧ (b = false → acc + (l.drop j).sum ≤ 1048576) := by
  intro m
  induction m with
  | zero =>
    intro j acc hj h0 h1
    rw [cabstandlaw01_Beyond.l0, if_neg (by omega)]
    refine ⟨false, rfl, fun _ => ?_⟩
    rw [List.drop_eq_nil_of_le (by omega)]
    simpa using h1
  | succ m ih =>
    intro j acc hj h0 h1
    have hjl : j < l.length := by omega
    have e : rd l (j : Int) = l[j] := by simp [rd, List.getD, hjl]
    have hb := hx l[j] (List.getElem_mem hjl)
    have e2 : wrap64 (acc + l[j]) = acc + l[j] := by unfold wrap64; omega
    have e3 : wrap64 ((j : Int) + 1) = ((j + 1 : Nat) : Int) := by unfold wrap64; omega
    rw [cabstandlaw01_Beyond.l0, if_pos (by omega), if_pos (by omega), e, e2, e3]
    by_cases hc : acc + l[j] > 1048576
    · rw [if_pos hc]
      exact ⟨true, rfl, fun h => by cases h⟩
    · rw [if_neg hc]
      obtain ⟨b, h2, h3⟩ := ih (j + 1) (acc + l[j]) (by omega) (by omega) (by omega)
      refine ⟨b, h2, fun h => ?_⟩
      have := h3 h
      rw [List.drop_eq_getElem_cons hjl, List.sum_cons]
      omega
theorem beyond_is (l : List Int) (hx : ∀ x ∈ l, 0 ≤ x ∧ x ≤ 9223372036853727231) (hl : l.length ≤ 9223372036854775806) : ∃ b, cabstandlaw01_Beyond.f (l.length + 1) l = some b ∧ (b = false → l.sum ≤ 1048576) := by
  obtain ⟨b, h1, h2⟩ := beyond_l0 l hx hl l.length 0 0 (by omega) (by omega) (by omega)
  exact ⟨b, h1, fun h => by simpa using h2 h⟩
theorem ints_at {w : World} {g : Nat} {l : List Int} {t : TypeId} {fr : Nat × Nat} (h : w.heap[g]? = some (.cells (nums .i64 l).toArray t fr)) (hl : l.length ≤ 9223372036854775807) : Kd.C (Kd.int .i64) w (some ⟨g, 0, none⟩) l.length l := by
  refine ⟨rfl, hl, fun _ => ⟨_, rfl, fun j p hj => ⟨[.int .i64 p], rfl, rfl, fun i u hu => ?_⟩⟩⟩
  match i, hu with
  | 0, hu =>
    simp at hu
    subst hu
    rw [add_plain, cell_of_row w g _ _ t fr h]
    have : j * (Kd.int .i64).sz + 0 = j := by show j * 1 + 0 = j; omega
    rw [this]
    simp [nums, hj]
theorem below_new (w : World) (o : Obj) : Below w.heap.size w (w.alloc o) := below_alloc (Below.refl _ _) o
abbrev MEdges (w : World) (base go co : Nat) (l : List S69) : Prop := Marked k69 69 w base go co l (⟨0, 0, -8777⟩ : S69)
abbrev MPairs (w : World) (base go co : Nat) (l : List S50) : Prop := Marked k50 50 w base go co l (⟨-8777, 0⟩ : S50)
abbrev MInts (w : World) (base go co : Nat) (l : List Int) : Prop := Marked (Kd.int .i64) 3 w base go co l (-8777 : Int)
theorem Marked.keep {α : Type} {d : Kd α} {ty : Nat} {w w' : World} {base go co : Nat} {l : List α} {m : α} (h : Marked d ty w base go co l m) (hk : ∀ k, base ≤ k → k < w.heap.size → w'.heap[k]? = w.heap[k]?) : Marked d ty w' base go co l m := by
  obtain ⟨⟨y, h1, h2, h3⟩, h4⟩ := h
  exact ⟨⟨y, Kd.R_mono (Kd.R_step (Kd.R_bound h1) (fun k hq hlt => hk k hq.2.1 hlt)) (fun _ _ => trivial), h2, h3⟩, h4⟩
set_option maxHeartbeats 8000000 in
set_option maxRecDepth 100000 in
theorem twinGraph_calls (R C : Int) (A0 : Option Addr) (c0 : Nat) (es : List S69) (w : World) (hr0 : Kd.C k69 w A0 es.length es) (hc0 : es.length ≤ c0) (hl : es.length ≤ 1048576) :
    Calls Try.prog 11 #[.agg #[.int .i64 R, .int .i64 C, .slice A0 es.length c0]] w fun e w' => ∃ go co, e = .returned (.agg #[.int .i64 R, .int .i64 C, .slice (some ⟨go, 0, none⟩) es.length co]) ∧ MEdges w' w.heap.size go co es ∧ Below w.heap.size w w' := by
  have HR := Aside0.mk hr0
  have HC := Aside0.mk hc0
  have HL := Aside0.mk hl
  clear hr0 hc0 hl
  go_enter Try.func11, Try.ntmps11
  go_wp2_with fail
  refine (twinEdges_calls A0 c0 es _ (Kd.C_alloc (Kd.C_alloc HR.out _) _) HC.out HL.out).mono ?_
  rintro e w1 ⟨go, co, rfl, hm, hb⟩
  rw [World.size_alloc, World.size_alloc] at hm
  have kt := blk_alloc (blk_new w (.cells #[Value.int .i64 R, Value.int .i64 C, Value.slice A0 es.length c0] 24)) (.cells #[Value.int .i64 0, Value.int .i64 0, Value.slice none 0 0] 24)
  have kr := blk_new (w.alloc (.cells #[Value.int .i64 R, Value.int .i64 C, Value.slice A0 es.length c0] 24)) (.cells #[Value.int .i64 0, Value.int .i64 0, Value.slice none 0 0] 24)
  rw [World.size_alloc] at kr
  have HS1 := hb.size
  have hb' := hb
  rw [World.size_alloc, World.size_alloc] at HS1
  replace kt := (hb.block w.heap.size (by rw [World.size_alloc, World.size_alloc]; omega)).trans kt
  replace kr := (hb.block (w.heap.size + 1) (by rw [World.size_alloc, World.size_alloc]; omega)).trans kr
  have HB0 : Below w.heap.size w w1 := below_then (below_alloc (below_alloc (Below.refl w.heap.size w) _) _) (by rw [World.size_alloc, World.size_alloc]; omega) hb
  have tc0 : w1.cell? ⟨w.heap.size, 0, none⟩ = some (.int .i64 R) := (blk_cell kt 0).trans rfl
  have tc1 : w1.cell? ⟨w.heap.size, 1, none⟩ = some (.int .i64 C) := (blk_cell kt 1).trans rfl
  have tc2 : w1.cell? ⟨w.heap.size, 2, none⟩ = some (.slice A0 es.length c0) := (blk_cell kt 2).trans rfl
  have tf2 := blk_frozen kt 2
  have rc0 : w1.cell? ⟨w.heap.size + 1, 0, none⟩ = some (.int .i64 0) := (blk_cell kr 0).trans rfl
  have rc1 : w1.cell? ⟨w.heap.size + 1, 1, none⟩ = some (.int .i64 0) := (blk_cell kr 1).trans rfl
  have rc2 : w1.cell? ⟨w.heap.size + 1, 2, none⟩ = some (.slice none 0 0) := (blk_cell kr 2).trans rfl
  have rf0 := blk_frozen kr 0
  have rf1 := blk_frozen kr 1
  have rf2 := blk_frozen kr 2
  have KR := Aside0.mk kr
  have HM := Aside0.mk hm
  have HB := Aside0.mk HB0
  have HS := Aside0.mk HS1
  clear hb hb' kt kr hm HB0 HS1
  go_wp2
  have b1 := blk_far KR.out (p := ⟨w.heap.size, 2, none⟩) (by show w.heap.size + 1 ≠ w.heap.size; omega) (.slice (some ⟨go, 0, none⟩) es.length co)
  have b2 := blk_put b1 0 (.int .i64 R) rfl
  have b3 := blk_put b2 1 (.int .i64 C) rfl
  have b4 := blk_put b3 2 (.slice (some ⟨go, 0, none⟩) es.length co) rfl
  refine bodyPost_ret (results_cell_row rfl _ _ (w.heap.size + 1) 24 _ (0, 0) _ rfl b4 Try.underlying24 rfl (by kernel_rfl)) rfl ?_
  refine ⟨go, co, rfl, ((HM.out.keep (fun k hk hl => ?_)).lower (by omega)), ?_⟩
  · exact (Below.heap_setCell _ _ _ k (by show k ≠ w.heap.size + 1; omega)).trans ((Below.heap_setCell _ _ _ k (by show k ≠ w.heap.size + 1; omega)).trans ((Below.heap_setCell _ _ _ k (by show k ≠ w.heap.size + 1; omega)).trans (Below.heap_setCell _ _ _ k (by show k ≠ w.heap.size; omega))))
  · exact below_set (below_set (below_set (below_set HB.out (Nat.le_refl _)) (Nat.le_succ _)) (Nat.le_succ _)) (Nat.le_succ _)
set_option maxHeartbeats 8000000 in
set_option maxRecDepth 100000 in
theorem leftGraph_calls (base go co : Nat) (R C : Int) (es : List S69) (A1 : Option Addr) (c1 : Nat) (w : World) (hm : MEdges w base go co es) (hr1 : Kd.C k69 w A1 es.length es) (hc1 : es.length ≤ c1) (hl : es.length ≤ 1048576) :
    Calls Try.prog 15 #[.agg #[.int .i64 R, .int .i64 C, .slice (some ⟨go, 0, none⟩) es.length co], .agg #[.int .i64 R, .int .i64 C, .slice A1 es.length c1]] w fun e w' => e = .returned (.bool true) ∧ Below w.heap.size w w' := by
  have HM := Aside0.mk hm
  have HR1 := Aside0.mk hr1
  have HC1 := Aside0.mk hc1
  have HL := Aside0.mk hl
  clear hm hr1 hc1 hl
  go_enter Try.func15, Try.ntmps15
  go_wp2_with fail
  refine (leftEdges_calls base go co es A1 c1 _ ((HM.out.below (below_new _ _)).below (below_new _ _)) (Kd.C_alloc (Kd.C_alloc HR1.out _) _) HC1.out HL.out).mono ?_
  rintro e w1 ⟨rfl, hb⟩
  have HB := Aside0.mk (below_then (below_alloc (below_alloc (Below.refl w.heap.size w) _) _) (by rw [World.size_alloc, World.size_alloc]; omega) hb)
  clear hb
  go_wp2
  go_ret
  exact ⟨rfl, HB.out⟩
end Go.Proofs.Ytmdidgdcdlodlaa.Q
