/- Roads: Grid, where it is one. Conditions: those that stand in each theorem. Written in session 7. -/
import Derived.Test.YtgbfhhmmkhjhhaaCPathsGd
namespace Go.Proofs.Ytgbfhhmmkhjhhaa.Paths
open Go.RowKit Go.Proofs.YtgbfhhmmkhjhhaaW.PrintWords Go.Proofs.YtgbfhhmmkhjhhaaW.PrintLast Go.Proofs.YtgbfhhmmkhjhhaaW.PrintMore Go.Proofs.Ytgbfhhmmkhjhhaa.HeapW Go.Proofs.Ytgbfhhmmkhjhhaa.HeapP Go.Proofs.Ytgbfhhmmkhjhhaa.MapAt Go.Proofs.Ytgbfhhmmkhjhhaa.Dij
open Go.Proofs.Ytgbfhhmmkhjhhaa.HeapIR hiding It Pt kIt_K infoZ reps_single
open Go.Proofs.Ytgbfhhmmkhjhhaa.Roads (NetS NetAt outOf isN isN_iff nodeP roadP okP kPt kRd)
set_option linter.unusedVariables false
set_option linter.unusedSimpArgs false
/-- a grid that may be -/
structure GridOk (W H s : Nat) : Prop where
  gw : 1 ≤ W
  gh : 1 ≤ H
  gs : 1 ≤ s ∧ s ≤ 1048576
  gall : W * H ≤ 4096
  gx : (W - 1) * s ≤ 32767
  gy : (H - 1) * s ≤ 32767
theorem gpt_xy {W s x y : Nat} (hx : x < W) : gpt W s (y * W + x) = (((x * s : Nat) : Int), ((y * s : Nat) : Int)) := by
  unfold gpt
  rw [Nat.add_comm (y * W), Nat.add_mul_mod_self_right, Nat.mod_eq_of_lt hx, Nat.add_mul_div_right _ _ (by omega), Nat.div_eq_of_lt hx, Nat.zero_add]
theorem okP_of {a b : Nat} (ha : a ≤ 32767) (hb : b ≤ 32767) : okP ((a : Int), (b : Int)) := by
  constructor <;> (simp [Lit.wf, IntKind.min, IntKind.max, IntKind.signed, IntKind.bits]; omega)
theorem wrap_small {a : Nat} (h : a ≤ 32767) : wrap64 (a : Int) = (a : Int) := by unfold wrap64; omega
theorem wrap16 {a : Nat} (h : a ≤ 32767) : IntKind.i16.wrap (a : Int) = (a : Int) := by
  unfold IntKind.wrap
  simp [IntKind.signed, IntKind.bits]
  omega
theorem node_at {w : World} {base g W s k x y : Nat} {F : Nat → Prop} (h : NetS w base g (gp W s k) (List.replicate k []) F) (hb : base ≤ w.heap.size) (hs : 0 < s) (hk : k < 4096) (hx : x < W) (hkk : k = y * W + x) (hok : okP (((x * s : Nat) : Int), ((y * s : Nat) : Int))) :
    Calls Try.prog 25 #[.pointer (some ⟨g, 0, none⟩), .agg #[.int .i16 ((x * s : Nat) : Int), .int .i16 ((y * s : Nat) : Int)]] w fun e w' => ∃ F', e = .returned (.tuple #[.int .i64 (k : Nat), .int .i64 0]) ∧ NetS w' base g (gp W s (k + 1)) (List.replicate (k + 1) []) F' ∧ Chg F w w' ∧ ∀ j, F' j → F j ∨ w.heap.size ≤ j := by
  have h2 := h.node hb (gpt W s k) (by rw [hkk, gpt_xy hx]; exact hok)
  rw [node_grid hs hk] at h2
  have e : gpt W s k = (((x * s : Nat) : Int), ((y * s : Nat) : Int)) := by rw [hkk, gpt_xy hx]
  rw [e] at h2
  refine h2.mono ?_
  rintro e w' ⟨rfl, F', h3, h4, h5⟩
  exact ⟨F', rfl, h3, h4, h5⟩
set_option maxHeartbeats 6400000 in
set_option maxRecDepth 100000 in
theorem grid_calls {W H s : Nat} (hg : GridOk W H s) (w : World) :
    Calls Try.prog 21 #[.int .i64 W, .int .i64 H, .int .i64 s] w fun e w' => ∃ g F out, e = .returned (.tuple #[.pointer (some ⟨g, 0, none⟩), .int .i64 0]) ∧ NetS w' w.heap.size g (gp W s (W * H)) out F ∧ HasE out (EdN W H s (W * H)) ∧ Below w.heap.size w w' := by
  have HG := Aside0.mk hg
  have hWH1 : W ≤ W * H := Nat.le_mul_of_pos_right _ hg.gh
  have hWH2 : H ≤ W * H := Nat.le_mul_of_pos_left _ hg.gw
  have HB : Aside0 (W ≤ 4096 ∧ H ≤ 4096) := ⟨by have := hg.gall; omega⟩
  obtain ⟨W1, hW1⟩ : ∃ W1, W = W1 + 1 := ⟨W - 1, by have := hg.gw; omega⟩
  obtain ⟨H1, hH1⟩ : ∃ H1, H = H1 + 1 := ⟨H - 1, by have := hg.gh; omega⟩
  obtain ⟨Q, hQ⟩ : ∃ Q, Q = 4096 / H := ⟨_, rfl⟩
  obtain ⟨X, hX⟩ : ∃ X, X = W1 * s := ⟨_, rfl⟩
  obtain ⟨Y, hY⟩ : ∃ Y, Y = H1 * s := ⟨_, rfl⟩
  have HX : Aside0 (X = W1 * s ∧ X ≤ 32767 ∧ W = W1 + 1) := ⟨hX, by have := hg.gx; rw [hW1, Nat.add_sub_cancel] at this; omega, hW1⟩
  have HY : Aside0 (Y = H1 * s ∧ Y ≤ 32767 ∧ H = H1 + 1) := ⟨hY, by have := hg.gy; rw [hH1, Nat.add_sub_cancel] at this; omega, hH1⟩
  have HQ : Aside0 (W ≤ Q ∧ Q ≤ 4096) := ⟨by rw [hQ]; exact (Nat.le_div_iff_mul_le hg.gh).2 hg.gall, by rw [hQ]; exact Nat.div_le_self _ _⟩
  have d1 : decide ((W : Int) < 1) = false := decide_eq_false (by have := hg.gw; omega)
  have d2 : decide ((H : Int) < 1) = false := decide_eq_false (by have := hg.gh; omega)
  have d3 : decide ((s : Int) < 1) = false := decide_eq_false (by have := hg.gs; omega)
  have d4 : decide ((Q : Int) < (W : Int)) = false := decide_eq_false (by have := HQ.out; omega)
  have d4n : decide (Q < W) = false := decide_eq_false (by have := HQ.out; omega)
  have d5 : decide ((1048576 : Int) < (s : Int)) = false := decide_eq_false (by have := hg.gs; omega)
  have d6 : decide ((32767 : Int) < (X : Int)) = false := decide_eq_false (by have := HX.out; omega)
  have d7 : decide ((32767 : Int) < (Y : Int)) = false := decide_eq_false (by have := HY.out; omega)
  have hz : ¬ H = 0 := by have := hg.gh; omega
  have q1 : Int.tdiv 4096 (H : Int) = (Q : Int) := by rw [hQ]; rfl
  have q2 : (4096 : Int) / (H : Int) = (Q : Int) := by rw [hQ]; rfl
  have k1 : wrap64 (Q : Int) = (Q : Int) := by unfold wrap64; have := HQ.out; omega
  have k2 : wrap64 ((W : Int) - 1) = (W1 : Int) := by unfold wrap64; have := HX.out; have := HB.out; omega
  have k3 : wrap64 ((H : Int) - 1) = (H1 : Int) := by unfold wrap64; have := HY.out; have := HB.out; omega
  have m1 : (W1 : Int) * (s : Int) = (X : Int) := by rw [hX]; simp
  have m2 : (H1 : Int) * (s : Int) = (Y : Int) := by rw [hY]; simp
  have k4 : wrap64 (X : Int) = (X : Int) := by unfold wrap64; have := HX.out; omega
  have k5 : wrap64 (Y : Int) = (Y : Int) := by unfold wrap64; have := HY.out; omega
  clear hg hWH1 hWH2 hW1 hH1 hQ hX hY
  go_enter Try.func21, Try.ntmps21
  go_wp2_with (first | fail | ((with_reducible refine gate_upon ?_); go_simp))
  refine (Roads.new_net w).mono ?_
  rintro e w1 ⟨g, F0, rfl, hn, hb⟩
  have HN := Aside0.mk hn
  have HBW := Aside0.mk hb
  clear hn hb d1 d2 d3 d4 d4n d5 d6 d7 q1 q2 k1 k2 k3 m1 m2 k4 k5
  go_wp2_with (first | fail | ((with_reducible refine gate_upon ?_); go_simp))
  go_loopg [46] H (fun kq v46 w' => ∃ (y : Nat) (F : Nat → Prop), v46 = .int .i64 y ∧ Aside0 (y + kq = H) ∧ Aside0 (NetS w' w.heap.size g (gp W s (y * W)) (List.replicate (y * W) []) F) ∧ Aside0 (Below w.heap.size w w'))
  case atStart => exact ⟨0, F0, by first | rfl | simp, ⟨by omega⟩, ⟨by rw [Nat.zero_mul]; exact HN.out⟩, HBW⟩
  case round =>
   as_aux_lemma =>
    clear HN HBW
    obtain ⟨y, F1, rfl, HYY, HN, HBW⟩ := hrel
    cases gk with
    | zero =>
     as_aux_lemma =>
      have hy : H = y := by have := HYY.out; omega
      subst hy
      have hgt : decide (H < H) = false := decide_eq_false (by omega)
      obtain ⟨N, hN⟩ : ∃ N, N = W * H := ⟨_, rfl⟩
      have HNN : Aside0 (N = W * H ∧ N ≤ 4096) := ⟨hN, by rw [hN]; exact HG.out.gall⟩
      have m3 : (W : Int) * (H : Int) = (N : Int) := by rw [hN]; simp
      have w6 : wrap64 (N : Int) = (N : Int) := by unfold wrap64; have := HNN.out; omega
      have HN2 : Aside0 (NetS wr w.heap.size g (gp W s (W * H)) (List.replicate (W * H) []) F1) := ⟨by rw [Nat.mul_comm W H]; exact HN.out⟩
      clear HN hN
      go_wp2_with (first | fail | ((with_reducible refine gate_upon ?_); go_simp))
      try simp only [w6]
      have HM3 := Aside0.mk m3
      clear m3
      go_loopg [69] N (fun kq v69 w' => ∃ (u : Nat) (F : Nat → Prop) (out : List (List Rd)), v69 = .int .i64 u ∧ Aside0 (u + kq = N) ∧ Aside0 (NetS w' w.heap.size g (gp W s (W * H)) out F) ∧ Aside0 (HasE out (EdN W H s u)) ∧ Aside0 (Below w.heap.size w w'))
      case atStart => exact ⟨0, F1, _, by first | rfl | simp, ⟨by omega⟩, HN2, ⟨HasE.start _ (fun r ⟨u, hu, _⟩ => by omega)⟩, HBW⟩
      case round =>
       as_aux_lemma =>
        clear HN2 HBW
        obtain ⟨u, F2, out, rfl, HU, HN, HE, HBW⟩ := hrel
        cases gk with
        | zero =>
          have hu : N = u := by have := HU.out; omega
          subst hu
          have hgt : decide (N < N) = false := decide_eq_false (by omega)
          go_wp2_with (first | fail | ((with_reducible refine gate_upon ?_); go_simp))
          refine bodyPost_ret (results_list (rs := [.tmp 6, .tmp 7]) rfl (by simp) (.tmp (.tmp .nil))) rfl ?_
          exact ⟨g, F2, out, rfl, HN.out, by rw [← HNN.out.1]; exact HE.out, HBW.out⟩
        | succ gk2 =>
         as_aux_lemma =>
          have huN : u < N := by have := HU.out; omega
          have hlt : decide (u < N) = true := decide_eq_true huN
          have hltI : (u : Int) < N := by omega
          have HU1 : Aside0 (u + 1 + gk2 = N) := ⟨by have := HU.out; omega⟩
          have hwu : wrap64 ((u : Int) + 1) = (u : Int) + 1 := by unfold wrap64; have := HNN.out; omega
          have HWU := Aside0.mk hwu
          obtain ⟨mm, hmm⟩ : ∃ mm, mm = (u + 1) % W := ⟨_, rfl⟩
          have HMM := Aside0.mk hmm
          have ht1 : Int.tmod ((u : Int) + 1) (W : Int) = (mm : Int) := by rw [hmm]; rfl
          have hzw : ¬ W = 0 := by have := HG.out.gw; omega
          have HUH : Aside0 (u < W * H) := ⟨by rw [← HNN.out.1]; exact huN⟩
          have HON : Aside0 (out.length = W * H) := ⟨by have := HN.out.len.1; rwa [gp_len] at this⟩
          clear hmm
          go_upto_if 76 with (first | fail | ((with_reducible refine gate_upon ?_); go_simp))
          try simp only [hwu]
          go_cut [77, 78, 79, 80, 81, 82, 83, 84, 85, 86, 87, 88] (fun v77 v78 v79 v80 v81 v82 v83 v84 v85 v86 v87 v88 wc => ∃ (F : Nat → Prop) (out : List (List Rd)), Aside0 (NetS wc w.heap.size g (gp W s (W * H)) out F) ∧ Aside0 (HasE out (E2 W H s u)) ∧ Aside0 (Below w.heap.size w wc))
          case first =>
           as_aux_lemma =>
            by_cases hm : mm = 0
            · have dm : ((mm : Int) != 0) = false := by rw [bne_eq_false_iff_eq]; omega
              have dm2 : decide (mm = 0) = true := decide_eq_true hm
              have HE2 : Aside0 (HasE out (E2 W H s u)) := ⟨skip2 HE.out (by rw [← HMM.out]; exact hm)⟩
              first | rw [dm] | skip
              go_wp2
              go_meet
              case rel => exact ⟨F2, out, HN, HE2, HBW⟩
            · have dm : ((mm : Int) != 0) = true := by rw [bne_iff_ne]; omega
              have HM0 : Aside0 ((u + 1) % W ≠ 0) := ⟨by rw [← HMM.out]; exact hm⟩
              have HR1 := Aside0.mk (HN.out.road HBW.out.size (u : Int) ((u : Int) + 1) (s : Int))
              have HE1 := Aside0.mk (road1 HON.out HG.out.gs HG.out.gw HUH.out HE.out HM0.out)
              clear hm
              first | rw [dm] | skip
              go_wp2_with (first | fail | ((with_reducible refine gate_upon ?_); go_simp))
              refine HR1.out.mono ?_
              rintro e w3 ⟨rfl, F3, hn3, hc3, -⟩
              have HB3 : Aside0 (Below w.heap.size w w3) := ⟨((Chg.of_below (F := F2) HBW.out).trans hc3).below (Nat.le_refl _) (fun k hk => (HN.out.ge k hk).1)⟩
              obtain ⟨o3, ho3⟩ : ∃ o3, o3 = (roadP out u ((u : Int) + 1) s).2 := ⟨_, rfl⟩
              rw [← ho3] at hn3 HE1
              have HN3 := Aside0.mk hn3
              have HO3 : Aside0 (o3.length = W * H) := ⟨by have := HN3.out.len.1; rwa [gp_len] at this⟩
              have HR2 := Aside0.mk (HN3.out.road HB3.out.size ((u : Int) + 1) (u : Int) (s : Int))
              have HE2 := Aside0.mk (road2 HO3.out HG.out.gs HUH.out HE1.out HM0.out)
              clear hn3 hc3 ho3 HR1 HN HBW HE1
              go_wp2_with (first | fail | ((with_reducible refine gate_upon ?_); go_simp))
              refine HR2.out.mono ?_
              rintro e w4 ⟨rfl, F4, hn4, hc4, -⟩
              have HB4 : Aside0 (Below w.heap.size w w4) := ⟨((Chg.of_below (F := F3) HB3.out).trans hc4).below (Nat.le_refl _) (fun k hk => (HN3.out.ge k hk).1)⟩
              have HN4 := Aside0.mk hn4
              clear hn4 hc4 HR2 HN3 HB3
              go_wp2_with (first | fail | ((with_reducible refine gate_upon ?_); go_simp))
              go_meet
              case rel => exact ⟨F4, _, HN4, HE2, HB4⟩
          case rest =>
           as_aux_lemma =>
            clear HN HE HBW HON ht1 hwu
            obtain ⟨F3, o3, HN, HE, HBW⟩ := hcut
            have HON : Aside0 (o3.length = W * H) := ⟨by have := HN.out.len.1; rwa [gp_len] at this⟩
            have m3 := HM3.out
            have w7 : wrap64 ((u : Int) + (W : Int)) = (u : Int) + (W : Int) := by unfold wrap64; have := HNN.out; have := HB.out; omega
            by_cases hv : u + W < N
            · have dv : decide ((u : Int) + (W : Int) < (N : Int)) = true := decide_eq_true (by omega)
              have dv2 : decide (u + W < N) = true := decide_eq_true hv
              have HV : Aside0 (u + W < W * H) := ⟨by rw [← HNN.out.1]; exact hv⟩
              have HR1 := Aside0.mk (HN.out.road HBW.out.size (u : Int) ((u : Int) + W) (s : Int))
              have HE3 := Aside0.mk (road3 HON.out HG.out.gs HG.out.gw HUH.out HE.out HV.out)
              clear hv
              go_wp2_with (first | fail | ((with_reducible refine gate_upon ?_); go_simp))
              refine HR1.out.mono ?_
              rintro e w4 ⟨rfl, F4, hn4, hc4, -⟩
              have HB4 : Aside0 (Below w.heap.size w w4) := ⟨((Chg.of_below (F := F3) HBW.out).trans hc4).below (Nat.le_refl _) (fun k hk => (HN.out.ge k hk).1)⟩
              obtain ⟨o4, ho4⟩ : ∃ o4, o4 = (roadP o3 u ((u : Int) + W) s).2 := ⟨_, rfl⟩
              rw [← ho4] at hn4 HE3
              have HN4 := Aside0.mk hn4
              have HO4 : Aside0 (o4.length = W * H) := ⟨by have := HN4.out.len.1; rwa [gp_len] at this⟩
              have HR2 := Aside0.mk (HN4.out.road HB4.out.size ((u : Int) + W) (u : Int) (s : Int))
              have HE4 := Aside0.mk (road4 HO4.out HG.out.gs HG.out.gw HUH.out HE3.out HV.out)
              clear hn4 hc4 ho4 HR1 HN HBW HE3
              go_wp2_with (first | fail | ((with_reducible refine gate_upon ?_); go_simp))
              refine HR2.out.mono ?_
              rintro e w5 ⟨rfl, F5, hn5, hc5, -⟩
              have HB5 : Aside0 (Below w.heap.size w w5) := ⟨((Chg.of_below (F := F4) HB4.out).trans hc5).below (Nat.le_refl _) (fun k hk => (HN4.out.ge k hk).1)⟩
              have HN5 := Aside0.mk hn5
              clear hn5 hc5 HR2 HN4 HB4
              have hwu := HWU.out
              go_wp2_with (first | fail | ((with_reducible refine gate_upon ?_); go_simp))
              go_roundg gk2
              case measure => first | exact Nat.lt_succ_self _ | omega
              case rel => exact ⟨u + 1, F5, _, by first | rfl | (simp; done) | (rw [hwu]; done) | (rw [hwu]; rfl), HU1, HN5, HE4, HB5⟩
            · have dv : decide ((u : Int) + (W : Int) < (N : Int)) = false := decide_eq_false (by omega)
              have dv2 : decide (u + W < N) = false := decide_eq_false hv
              have HE4 : Aside0 (HasE o3 (EdN W H s (u + 1))) := ⟨skip4 HE.out (by rw [← HNN.out.1]; exact hv)⟩
              clear hv
              have hwu := HWU.out
              go_wp2_with (first | fail | ((with_reducible refine gate_upon ?_); go_simp))
              go_roundg gk2
              case measure => first | exact Nat.lt_succ_self _ | omega
              case rel => exact ⟨u + 1, F3, o3, by first | rfl | (simp; done) | (rw [hwu]; done) | (rw [hwu]; rfl), HU1, HN, HE4, HBW⟩
    | succ gk2 =>
     as_aux_lemma =>
      have hyH : y < H := by have := HYY.out; omega
      have hlt : decide (y < H) = true := decide_eq_true hyH
      have hltI : (y : Int) < H := by omega
      have HY1 : Aside0 (y + 1 + gk2 = H) := ⟨by have := HYY.out; omega⟩
      have HWY : Aside0 (wrap64 ((y : Int) + 1) = (y : Int) + 1) := ⟨by unfold wrap64; have := HB.out; omega⟩
      go_wp2_with (first | fail | ((with_reducible refine gate_upon ?_); go_simp))
      go_loopg [50] W (fun kq v50 w' => ∃ (x : Nat) (F : Nat → Prop), v50 = .int .i64 x ∧ Aside0 (x + kq = W) ∧ Aside0 (NetS w' w.heap.size g (gp W s (y * W + x)) (List.replicate (y * W + x) []) F) ∧ Aside0 (Below w.heap.size w w'))
      case atStart => exact ⟨0, F1, by first | rfl | simp, ⟨by omega⟩, HN, HBW⟩
      case round =>
       as_aux_lemma =>
        clear HN HBW
        obtain ⟨x, F2, rfl, HXX, HN, HBW⟩ := hrel
        cases gk with
        | zero =>
          have hx : W = x := by have := HXX.out; omega
          subst hx
          have hgt : decide (W < W) = false := decide_eq_false (by omega)
          have hwy := HWY.out
          go_wp2_with (first | fail | ((with_reducible refine gate_upon ?_); go_simp))
          go_roundg gk2
          case measure => first | exact Nat.lt_succ_self _ | omega
          case rel => exact ⟨y + 1, F2, by first | rfl | (simp; done) | (rw [hwy]; done) | (rw [hwy]; rfl), HY1, ⟨by rw [Nat.succ_mul]; exact HN.out⟩, HBW⟩
        | succ gk3 =>
         as_aux_lemma =>
          have hxW : x < W := by have := HXX.out; omega
          have hlt : decide (x < W) = true := decide_eq_true hxW
          have hltx : (x : Int) < W := by omega
          have HX1 : Aside0 (x + 1 + gk3 = W) := ⟨by have := HXX.out; omega⟩
          have HWX : Aside0 (wrap64 ((x : Int) + 1) = (x : Int) + 1) := ⟨by unfold wrap64; have := HB.out; omega⟩
          have hxs : x * s ≤ 32767 := by
            have h1 : x * s ≤ W1 * s := Nat.mul_le_mul_right _ (by have := HX.out; omega)
            have := HX.out
            omega
          have hys : y * s ≤ 32767 := by
            have h1 : y * s ≤ H1 * s := Nat.mul_le_mul_right _ (by have := HY.out; omega)
            have := HY.out
            omega
          have hk : y * W + x < 4096 := by
            have h1 : (y + 1) * W ≤ H * W := Nat.mul_le_mul_right _ hyH
            have h2 := HG.out.gall
            rw [Nat.mul_comm W H] at h2
            rw [Nat.succ_mul] at h1
            omega
          have HND := Aside0.mk (node_at HN.out HBW.out.size (by have := HG.out.gs; omega) hk hxW rfl (okP_of hxs hys))
          obtain ⟨xs, hxe⟩ : ∃ xs, xs = x * s := ⟨_, rfl⟩
          obtain ⟨ys, hye⟩ : ∃ ys, ys = y * s := ⟨_, rfl⟩
          have m3 : (x : Int) * (s : Int) = (xs : Int) := by rw [hxe]; simp
          have m4 : (y : Int) * (s : Int) = (ys : Int) := by rw [hye]; simp
          rw [← hxe, ← hye] at HND
          have w6 : wrap64 (xs : Int) = (xs : Int) := wrap_small (by rw [hxe]; exact hxs)
          have w7 : wrap64 (ys : Int) = (ys : Int) := wrap_small (by rw [hye]; exact hys)
          have i1 : IntKind.i16.wrap (xs : Int) = (xs : Int) := wrap16 (by rw [hxe]; exact hxs)
          have i2 : IntKind.i16.wrap (ys : Int) = (ys : Int) := wrap16 (by rw [hye]; exact hys)
          clear hxs hys hk hxe hye
          go_wp2_with (first | fail | ((with_reducible refine gate_upon ?_); go_simp))
          refine HND.out.mono ?_
          rintro e w3 ⟨F3, rfl, hn3, hc3, -⟩
          have HN3 := Aside0.mk hn3
          have HB3 : Aside0 (Below w.heap.size w w3) := ⟨((Chg.of_below (F := F2) HBW.out).trans hc3).below (Nat.le_refl _) (fun k hk => (HN.out.ge k hk).1)⟩
          clear hn3 hc3 HND HN HBW m3 m4 w6 w7 i1 i2
          have hwx := HWX.out
          go_wp2_with (first | fail | ((with_reducible refine gate_upon ?_); go_simp))
          go_roundg gk3
          case measure => first | exact Nat.lt_succ_self _ | omega
          case rel => exact ⟨x + 1, F3, by first | rfl | (simp; done) | (rw [hwx]; done) | (rw [hwx]; rfl), HX1, HN3, HB3⟩
end Go.Proofs.Ytgbfhhmmkhjhhaa.Paths
