/- The walk of HeapSorts. Conditions: those that stand in each theorem. Written by wip/gen/heapsw.py. -/
import Derived.Test.YtibipbfmhbkpiaaHeapSL
import Derived.Test.YtibipbfmhbkpiaaHeapIIC
namespace Go.Proofs.Ytibipbfmhbkpiaa.HeapII
open Go.RowKit Go.Proofs.YtibipbfmhbkpiaaW.PrintWords Go.Proofs.YtibipbfmhbkpiaaW.PrintLast Go.Proofs.YtibipbfmhbkpiaaW.PrintMore Go.Proofs.Ytibipbfmhbkpiaa.HeapW Go.Proofs.Ytibipbfmhbkpiaa.HeapP Go.Proofs.Ytibipbfmhbkpiaa.MapAt Go.Proofs.Ytibipbfmhbkpiaa.Q
set_option linter.unusedVariables false
set_option linter.unusedSimpArgs false
def sorts.T9 : Bool × List (List Nat × List Nat) := (true, [([], []), ([], []), ([], []), ([1, 2], [1, 2]), ([3], [3]), ([4], [4]), ([], []), ([], []), ([6, 7], [6, 7]), ([8], [8]), ([9], [9]), ([0, 5, 10], [0, 5, 10]), ([11], [11])])
def sorts.B9 : List Nat := [0, 0, 0, 6, 14, 30, 0, 0, 192, 448, 960, 2047, 4095]
theorem sorts.tab9 : rtab .any (opsOf Try.f4 9) = sorts.T9 := by kernel_rfl
theorem sorts.bits9 : waitsOk sorts.T9.2 sorts.B9 = true := by kernel_rfl
theorem infoSB : (Try.prog.info? 4).map (fun i => (i.zero, i.size, i.bytes)) = some (some (.bool false), 1, 1) := by kernel_rfl
theorem infoSS : (Try.prog.info? 49).map (fun i => (i.zero, i.size, i.bytes)) = some (some (.agg #[.int .i64 0, .int .i64 0]), 2, 16) := by kernel_rfl
set_option maxHeartbeats 8000000 in
set_option maxRecDepth 100000 in
theorem sorts_walk (A0 : Option Addr) (c0 : Nat) (l : List S49) (order : Int) (w : World) (hr : Kd.C k49 w A0 l.length l) (hc : l.length ≤ c0) (hl : l.length ≤ 1048576) (hk : ∀ x ∈ l, okK x.f0) :
    Calls Try.prog 4 #[.slice A0 l.length c0, .int .i64 order] w fun e w' => e = .returned (.bool true) ∧ Below w.heap.size w w' := by
  have HR := Aside0.mk hr
  have HC := Aside0.mk hc
  have HL := Aside0.mk hl
  have HK := Aside0.mk hk
  clear hr hc hl hk
  go_enter Try.func4, Try.ntmps4
  go_wp2_with fail
  refine (order_calls order _).mono ?_
  rintro e w1 ⟨f, kk, rfl, hkf, hless, hb⟩
  have HB1 := Aside0.mk hb
  have HLS := Aside0.mk hless
  have HKF := Aside0.mk hkf
  clear hb hless hkf
  go_wp2_with fail
  refine (new_calls f w1).mono ?_
  rintro e w2 ⟨g, b, rfl, h, hb⟩
  have HB2 := Aside0.mk (below_then HB1.out HB1.out.size hb)
  have H2 := Aside0.mk (h.lower HB1.out.size)
  clear h hb HB1
  go_wp2_with fail
  refine (HeapSI.alive_calls w2).mono ?_
  rintro e w3 ⟨rfl, hb⟩
  have HB3 := Aside0.mk (below_then HB2.out HB2.out.size hb)
  have H3 := Aside0.mk (H2.out.below hb)
  clear hb HB2 H2
  go_wp2_with fail
  go_loopg [7, 8] l.length (fun kq v7 v8 w' => ∃ (i : Nat) (hl : List It) (A : Option Addr) (cap : Nat), v8 = .int .i64 i ∧ Aside0 (i + kq = l.length) ∧ Aside0 (HAt w' w.heap.size g (.func (.func f) #[] #[]) A cap b hl i) ∧ Aside0 (RelM hl i (cameL (l.map toP) i) ∧ HeapOK (ordK kk) hl) ∧ Aside0 (k49.R 49 w' w.heap.size (fun _ => True) v7 (wantS l i)) ∧ Aside0 (Below w.heap.size w w'))
  case atStart => exact ⟨0, [], none, 0, rfl, ⟨by omega⟩, H3, ⟨RelM.empty, fun j h1 h2 => absurd h2 (Nat.not_lt_zero _)⟩, ⟨Kd.R_nil _ _ _ _ _⟩, HB3⟩
  case round =>
    clear H3 HB3
    obtain ⟨i, hl, A, cap, rfl, HI, H, HM, HW, HB⟩ := hrel
    cases gk with
    | zero =>
      have hi : i = l.length := by have := HI.out; omega
      obtain ⟨M, hM⟩ : ∃ M, M = cameL (l.map toP) l.length := ⟨_, rfl⟩
      have hWl := wantS_came l
      rw [hi, ← hM] at HM
      rw [← hM] at hWl
      rw [hi] at HW H
      rw [hWl] at HW
      have hMl : M.length ≤ 1048576 := by rw [hM]; exact Nat.le_trans (came_len l _) HL.out
      obtain ⟨W, hW⟩ : ∃ W, W = M.map toS := ⟨_, rfl⟩
      rw [← hW] at HW
      have HWE := Aside0.mk hW
      have HWL : Aside0 (W.length = M.length) := ⟨by rw [hW, List.length_map]⟩
      have hlM : hl.length = W.length := by rw [HWL.out]; exact HM.out.1.perm.length_eq
      have HML := Aside0.mk hMl
      have HLM := Aside0.mk hlM
      clear hM hWl hMl hW hlM
      obtain ⟨Aw, cw, hu⟩ := Kd.R_slice HW.out
      subst hu
      generalize hC : (l.length : Int) = C at H HM
      clear hC
      have hgt : decide (i < l.length) = false := decide_eq_false (by omega)
      clear hi
      go_wp2_with fail
      refine (len_calls w.heap.size g _ A cap b hl C wr H.out).mono ?_
      rintro e w8 ⟨rfl, hw_⟩
      replace hw_ := hw_.symm
      subst hw_
      rw [HLM.out]
      go_wp2_with ((with_reducible refine gate_dst (N := 66) rfl ?_); refine Kd.R_make Kd.bool (w0 := w) w.heap.size 4 rfl (N := 66) rfl 52 (.tmp 65) (.tmp 65) rfl (W.length : Int) rfl rfl Try.underlying52 (.bool false) 1 infoSB rfl (by decide) (by omega) false (ok := fun _ => True) (okp := fun _ => True) rfl (fun _ h => h) trivial (by omega) (by rw [Int.toNat_natCast]; have := HWL.out; have := HML.out; omega) HB.out HB.out.size ?_; intro u9 w9 h9 hb9 hg9 _)
      rw [Int.toNat_natCast] at h9
      have HG9 := Aside0.mk h9
      have H9 := Aside0.mk (H.out.grown (e := 0) hg9 (fun k hk => by cases hk) (by decide) (by decide))
      have HW9 := Aside0.mk (Kd.R_grown HW.out hg9 (fun k _ hk => by cases hk))
      have HB9 := Aside0.mk hb9
      clear h9 hb9 hg9 H HW HB
      go_wp2_with fail
      have HM0 : Aside0 (Remain (ordK kk) M hl (List.replicate W.length false)) := ⟨by rw [HWL.out]; exact Remain.start HM.out.1 HM.out.2⟩
      clear HM
      go_loopg [10, 11, 12] W.length (fun kq v10 v11 v12 w' => ∃ (n : Nat) (hl : List It) (gone : List Bool) (at' before : Int), v10 = .int .i64 at' ∧ v11 = .int .i64 before ∧ v12 = .int .i64 n ∧ Aside0 (n + kq = W.length ∧ hl.length + n = W.length) ∧ Aside0 (HAt w' w.heap.size g (.func (.func f) #[] #[]) A cap b hl C) ∧ Aside0 (Remain (ordK kk) M hl gone) ∧ Aside0 (Kd.bool.R 4 w' w.heap.size (fun _ => True) u9 gone) ∧ Aside0 (k49.R 49 w' w.heap.size (fun _ => True) (.slice Aw W.length cw) W) ∧ Aside0 (Below w.heap.size w w') ∧ Aside0 (n ≠ 0 → ∃ (p : It) (j : Nat), before = p.2.1 ∧ at' = j ∧ j < M.length ∧ at_ M j = p ∧ ∀ y ∈ hl, Le (ordK kk) p y))
      case atStart => exact ⟨0, hl, _, -1, 0, rfl, rfl, rfl, ⟨by omega, by have := HLM.out; omega⟩, H9, HM0, HG9, HW9, HB9, ⟨fun h => absurd rfl h⟩⟩
      case round =>
        clear H9 HM0 HG9 HW9 HB9
        obtain ⟨n, hl, gone, at', before, rfl, rfl, rfl, HN, H, HT, HG, HW, HB, HO⟩ := hrel
        cases gk with
        | zero =>
          have hgt : decide (n < W.length) = false := decide_eq_false (by have := HN.out; omega)
          have hl0 : hl = [] := List.eq_nil_of_length_eq_zero (by have := HN.out; omega)
          subst hl0
          go_wp2_with fail
          refine (pop_none w.heap.size g _ A cap b C _ H.out).mono ?_
          rintro e w10 ⟨rfl, hb⟩
          have HB10 := Aside0.mk (below_step HB.out hb)
          have H10 := Aside0.mk (H.out.below hb)
          clear hb
          go_wp2_with fail
          refine (len_calls w.heap.size g _ A cap b [] C _ H10.out).mono ?_
          rintro e w10 ⟨rfl, hw_⟩
          replace hw_ := hw_.symm
          subst hw_
          rw [show ([] : List It).length = 0 from rfl]
          go_wp2
          go_ret
          exact ⟨rfl, HB10.out⟩
        | succ gk =>
          have hnl : (n : Int) < W.length := by have := HN.out; omega
          have hlp : 0 < hl.length := by have := HN.out; omega
          have HLP := Aside0.mk hlp
          clear hlp
          go_wp2_with fail
          refine (pop_calls w.heap.size g f (ordK kk) HLS.out A cap b hl C _ H.out HLP.out (by have := HN.out; have := HWL.out; have := HML.out; omega)).mono ?_
          rintro e w10 ⟨rfl, h, hc⟩
          obtain ⟨k, hk1, hk2, hk3, hk4, hk5, hk6, hk7⟩ := HT.out.pop (swo_ord kk) HLP.out
          have HB10 := Aside0.mk (HeapSI.chg_below HB.out hc H.out.fp_ge)
          have H10 := Aside0.mk h
          have HG10 := Aside0.mk (H.out.keepR HG.out (by decide) hc)
          have HW10 := Aside0.mk (H.out.keepR HW.out (by decide) hc)
          have HORD := Aside0.mk (fun (y : It) (hy : y ∈ hl) => hy)
          have HLE : Aside0 (n ≠ 0 → ∃ (p : It) (j : Nat), before = p.2.1 ∧ at' = j ∧ j < M.length ∧ at_ M j = p ∧ Le (ordK kk) p (at_ hl 0)) := ⟨fun hn => by
            obtain ⟨p, j, h1, h2, h3, h4, h5⟩ := HO.out hn
            exact ⟨p, j, h1, h2, h3, h4, h5 _ (at_mem HLP.out)⟩⟩
          have HN10 : Aside0 (n + 1 + gk = W.length ∧ (dropL (ordK kk) hl 0).length + (n + 1) = W.length) := ⟨by have := HN.out; omega, by have := HN.out; omega⟩
          have HK1 := Aside0.mk hk1
          have HK2 := Aside0.mk hk2
          have HK3 := Aside0.mk hk3
          have HK4 := Aside0.mk hk4
          have HT10 := Aside0.mk hk5
          have HK7 := Aside0.mk hk7
          clear h hc hk1 hk2 hk3 hk4 hk5 hk6 hk7 HB H HG HW HORD HO HN HT HLP
          generalize at_ hl 0 = x at HK1 HK3 HK7 HLE ⊢
          generalize dropL (ordK kk) hl 0 = hl10 at HN10 H10 HT10 HK7
          go_wp2_with fail
          refine (cabstandlaw07_find.calls (W.length + 1) Aw cw W x.1 k _ (Kd.R_reads' HW10.out).2.2 (Kd.R_reads' HW10.out).2.1 (by rw [HWE.out]; exact find_some HT10.out.keysM HK1.out (by have := HML.out; omega))).mono ?_
          rintro e w11 ⟨rfl, nq, rfl⟩
          have HB11 : Aside0 (Below w.heap.size w (w10.drewN nq)) := ⟨pw_below_drewN HB10.out nq⟩
          have H11 : Aside0 (HAt (w10.drewN nq) w.heap.size g (.func (.func f) #[] #[]) A cap b hl10 C) := ⟨H10.out.below (pw_below_drewN (Below.refl _ _) nq)⟩
          have HW11 : Aside0 (k49.R 49 (w10.drewN nq) w.heap.size (fun _ => True) (.slice Aw W.length cw) W) := ⟨Kd.R_drewN HW10.out nq⟩
          have HG11 : Aside0 (Kd.bool.R 4 (w10.drewN nq) w.heap.size (fun _ => True) u9 gone) := ⟨Kd.R_drewN HG10.out nq⟩
          clear HB10 H10 HW10 HG10
          generalize w10.drewN nq = w11 at HB11 H11 HW11 HG11 ⊢
          have hgl : gone.length = M.length := by have := HT10.out.len; rw [List.length_set] at this; exact this
          obtain ⟨gg, gc, hu9, hgb, hgs, hgt⟩ := Kd.R_form HG11.out (by rw [hgl]; have := HK2.out; omega)
          subst hu9
          have hki : (k : Int) < gone.length := by rw [hgl]; have := HK2.out; omega
          obtain ⟨hgk, hgf⟩ := Kd.R_celln false HG11.out (k : Int) (by omega) hki
          rw [Int.toNat_natCast] at hgk hgf
          have hgk0 : rdOf false gone (k : Int) = false := by unfold rdOf; rw [Int.toNat_natCast, List.getD_eq_getElem?_getD, HK4.out]; rfl
          rw [hgk0] at hgk
          have hkW : (k : Int) < W.length := by rw [HWL.out]; have := HK2.out; omega
          obtain ⟨ad, ea, hxa, hxb⟩ := at_T49 (Kd.R_reads' HW11.out).2.2 k (by omega) hkW
          have hWk : (W.getD k z49).f1 = x.2.1 := by rw [HWE.out, getD_toS M HK2.out, HK3.out]; rfl
          rw [rd_nat, Int.toNat_natCast, hWk] at hxb
          subst ea
          have hkl := HK2.out
          clear hgl hgb hgs hgt hgk0 hWk hxa
          have FIN : Aside0 (∀ w', Below w11.heap.size w11 w' → HAt (w'.setCell ⟨gg, k, none⟩ (.bool true)) w.heap.size g (.func (.func f) #[] #[]) A cap b hl10 C ∧ Kd.bool.R 4 (w'.setCell ⟨gg, k, none⟩ (.bool true)) w.heap.size (fun _ => True) (.slice (some ⟨gg, 0, none⟩) gone.length gc) (gone.set k true) ∧ k49.R 49 (w'.setCell ⟨gg, k, none⟩ (.bool true)) w.heap.size (fun _ => True) (.slice (some ad) W.length cw) W ∧ Below w.heap.size w (w'.setCell ⟨gg, k, none⟩ (.bool true)) ∧ w'.cell? ⟨gg, k, none⟩ = some (.bool (rdOf false gone (k : Int))) ∧ w'.frozen? ⟨gg, k, none⟩ = false) := ⟨fun w' hb => by
            have hG := Kd.R_below HG11.out hb
            have hp := Kd.R_putg hG (k : Int) true
            have hq := Kd.R_celln false hG (k : Int) (by omega) hki
            rw [Int.toNat_natCast] at hp hq
            exact ⟨(H11.out.below hb).grown hp.2 (Kd.R_typed hG) (by decide) (by decide), hp.1, Kd.R_over' (Kd.R_below HW11.out hb) (Kd.R_typed hG) (by decide) hp.2, pw_below_grown (below_step HB11.out hb) _ (below_step HB11.out hb).size hp.2 (Kd.R_base hG), hq.1, hq.2⟩⟩
          obtain ⟨fn_, hf1, hf2, hf3⟩ := HLS.out.fn
          have hent : ∀ args W, (callFunc f args).run Try.prog W = .ok (.enter f args) W := fun args W => enters_ hf1 hf2 hf3 args W
          clear hf1 hf2 hf3
          by_cases hn : n = 0
          · have hn0 : decide (0 < n) = false := decide_eq_false (by omega)
            have HN0 := Aside0.mk hn
            clear hn
            go_wp2
            obtain ⟨q1, q2, q3, q4, _⟩ := FIN.out w11 (Below.refl _ _)
            go_roundg gk
            case measure => omega
            case rel => exact ⟨n + 1, hl10, gone.set k true, k, x.2.1, rfl, rfl, by first | rfl | (simp; unfold wrap64; have := HWL.out; have := HML.out; have := HN10.out; omega), ⟨HN10.out.1, HN10.out.2⟩, ⟨q1⟩, HT10, ⟨q2⟩, ⟨q3⟩, ⟨q4⟩, ⟨fun _ => ⟨x, k, rfl, rfl, HK2.out, HK3.out, HK7.out⟩⟩⟩
          · have hn0 : decide (0 < n) = true := decide_eq_true (by omega)
            obtain ⟨p, j, hbe, hat, hj, hpj, hle⟩ := HLE.out hn
            subst hbe hat
            obtain ⟨ho1, ho2⟩ := Remain.order HT10.out.asc hle hj HK2.out hpj HK3.out
            have HO1 := Aside0.mk ho1
            have HO2 := Aside0.mk ho2
            clear hn hj hpj hle ho1 ho2
            go_wp2_with fail
            refine (HLS.out.calls _ _ _).mono ?_
            rintro e w12 ⟨rfl, hb⟩
            have HB12 := Aside0.mk hb
            rw [HO1.out]
            clear hb hgk hgf
            go_wp2_with fail
            refine (HLS.out.calls _ _ _).mono ?_
            rintro e w13 ⟨rfl, hb⟩
            have HB13 := Aside0.mk (below_step HB12.out hb)
            obtain ⟨q1, q2, q3, q4, hgk, hgf⟩ := FIN.out w13 HB13.out
            have Q := Aside0.mk (And.intro q1 (And.intro q2 (And.intro q3 q4)))
            clear hb q1 q2 q3 q4 HB12 HB13
            cases h2 : ordK kk p.2.1 x.2.1 with
            | true =>
              go_wp2
              go_roundg gk
              case measure => omega
              case rel => exact ⟨n + 1, hl10, gone.set k true, k, x.2.1, rfl, rfl, by first | rfl | (simp; unfold wrap64; have := HWL.out; have := HML.out; have := HN10.out; omega), ⟨HN10.out.1, HN10.out.2⟩, ⟨Q.out.1⟩, HT10, ⟨Q.out.2.1⟩, ⟨Q.out.2.2.1⟩, ⟨Q.out.2.2.2⟩, ⟨fun _ => ⟨x, k, rfl, rfl, HK2.out, HK3.out, HK7.out⟩⟩⟩
            | false =>
              have hjk : decide (k < j) = false := decide_eq_false (by have := HO2.out h2; omega)
              go_wp2
              go_roundg gk
              case measure => omega
              case rel => exact ⟨n + 1, hl10, gone.set k true, k, x.2.1, rfl, rfl, by first | rfl | (simp; unfold wrap64; have := HWL.out; have := HML.out; have := HN10.out; omega), ⟨HN10.out.1, HN10.out.2⟩, ⟨Q.out.1⟩, HT10, ⟨Q.out.2.1⟩, ⟨Q.out.2.2.1⟩, ⟨Q.out.2.2.2⟩, ⟨fun _ => ⟨x, k, rfl, rfl, HK2.out, HK3.out, HK7.out⟩⟩⟩
    | succ gk =>
      have hil : (i : Int) < l.length := by have := HI.out; omega
      obtain ⟨ad, e0, hx0, hx1⟩ := at_T49 HR.out i (by omega) hil
      rw [rd_nat, Int.toNat_natCast] at hx0 hx1
      have HX : Aside0 (∀ w', Below w.heap.size w w' → w'.cell? (ad.add (i * 2)) = some (.int .i64 (l.getD i z49).f0) ∧ w'.cell? ⟨(ad.add (i * 2)).block, (ad.add (i * 2)).off + 1, none⟩ = some (.int .i64 (l.getD i z49).f1)) := ⟨fun w' hb => ⟨pw_cell_below hb hx0, pw_cell_below hb hx1⟩⟩
      have HA := Aside0.mk e0
      cases e0
      clear hx0 hx1
      obtain ⟨x, hx⟩ : ∃ x, x = l.getD i z49 := ⟨_, rfl⟩
      rw [← hx] at HX
      have hxm : okK x.f0 := HK.out x (by rw [hx, List.getD_eq_getElem?_getD, List.getElem?_eq_getElem (show i < l.length by omega)]; exact List.getElem_mem _)
      have HXM := Aside0.mk hxm
      have HXE := Aside0.mk hx
      clear hxm hx
      go_wp2_with fail
      have HB4 : Aside0 (Below w.heap.size w wr.drew) := ⟨below_drew HB.out⟩
      have H4 : Aside0 (HAt wr.drew w.heap.size g (.func (.func f) #[] #[]) A cap b hl i) := ⟨H.out.below (below_drew1 (Below.refl _ _))⟩
      have HW4 : Aside0 (k49.R 49 wr.drew w.heap.size (fun _ => True) u7 (wantS l i)) := ⟨Kd.R_drew HW.out⟩
      clear HB H HW
      refine start_ (n := 13) (S := fun w' => w'.cell? (ad.add (i * 2)) = some (.int .i64 x.f0) ∧ w'.cell? ⟨(ad.add (i * 2)).block, (ad.add (i * 2)).off + 1, none⟩ = some (.int .i64 x.f1)) (ds := [11]) #[false, false, false, false, false, false, false, false, false, false, false, false, false] (by kernel_rfl) rfl rfl ⟨(HX.out _ HB4.out).1, (HX.out _ HB4.out).2⟩ (fun hHeld => ?_)
      refine with_tabW sorts.tab9 sorts.bits9 (fun HT_ HW_ => ?_)
      generalize wr.drew = w4 at HB4 H4 HW4 hHeld ⊢
      refine pure_ (i := 0) (N := some 36) (v := ?_) (a' := ?_) #[true, false, false, false, false, false, false, false, false, false, false, false, false] rfl rfl (any_of HT_.out (by kernel_rfl)) (fun _ _ _ h => h) (Or.inl ⟨by rfl, ?_⟩) ?_ ?_
      rotate_left
      · intro w'
        go_simp
        with_reducible rfl
      rotate_left
      · simp only [Act.put, List.setIfInBounds_toArray, List.set_cons_zero, List.set_cons_succ, i64_w, i32_w]
        rfl
      refine pure_ (i := 1) (N := some 37) (v := ?_) (a' := ?_) #[true, true, false, false, false, false, false, false, false, false, false, false, false] rfl rfl (any_of HT_.out (by kernel_rfl)) (fun _ _ _ h => h) (Or.inl ⟨by rfl, ?_⟩) ?_ ?_
      rotate_left
      · intro w'
        go_simp
        with_reducible rfl
      rotate_left
      · simp only [Act.put, List.setIfInBounds_toArray, List.set_cons_zero, List.set_cons_succ, i64_w, i32_w]
        rfl
      refine pure_ (i := 2) (N := some 38) (v := ?_) (a' := ?_) #[true, true, true, false, false, false, false, false, false, false, false, false, false] rfl rfl (any_of HT_.out (by kernel_rfl)) (fun _ _ _ h => h) (Or.inl ⟨by rfl, ?_⟩) ?_ ?_
      rotate_left
      · intro w'
        go_simp
        with_reducible rfl
      rotate_left
      · simp only [Act.put, List.setIfInBounds_toArray, List.set_cons_zero, List.set_cons_succ, i64_w, i32_w]
        rfl
      refine pure_ (i := 3) (N := some 39) (v := ?_) (a' := ?_) #[true, true, true, true, false, false, false, false, false, false, false, false, false] rfl rfl (any_of HT_.out (by kernel_rfl)) (fun _ _ _ h => h) (Or.inl ⟨by rfl, ?_⟩) ?_ ?_
      rotate_left
      · intro w'
        go_simp
        with_reducible rfl
      rotate_left
      · simp only [Act.put, List.setIfInBounds_toArray, List.set_cons_zero, List.set_cons_succ, i64_w, i32_w]
        rfl
      refine pure_ (i := 4) (N := some 40) (v := ?_) (a' := ?_) #[true, true, true, true, true, false, false, false, false, false, false, false, false] rfl rfl (any_of HT_.out (by kernel_rfl)) (fun _ _ _ h => h) (Or.inl ⟨by rfl, ?_⟩) ?_ ?_
      rotate_left
      · intro w'
        go_simp
        with_reducible rfl
      rotate_left
      · simp only [Act.put, List.setIfInBounds_toArray, List.set_cons_zero, List.set_cons_succ, i64_w, i32_w]
        rfl
      refine pure_ (i := 6) (N := some 42) (v := ?_) (a' := ?_) #[true, true, true, true, true, false, true, false, false, false, false, false, false] rfl rfl (any_of HT_.out (by kernel_rfl)) (fun _ _ _ h => h) (Or.inl ⟨by rfl, ?_⟩) ?_ ?_
      rotate_left
      · intro w'
        go_simp
        with_reducible rfl
      rotate_left
      · simp only [Act.put, List.setIfInBounds_toArray, List.set_cons_zero, List.set_cons_succ, i64_w, i32_w]
        rfl
      refine pure_ (i := 7) (N := some 43) (v := ?_) (a' := ?_) #[true, true, true, true, true, false, true, true, false, false, false, false, false] rfl rfl (any_of HT_.out (by kernel_rfl)) (fun _ _ _ h => h) (Or.inl ⟨by rfl, ?_⟩) ?_ ?_
      rotate_left
      · intro w'
        go_simp
        with_reducible rfl
      rotate_left
      · simp only [Act.put, List.setIfInBounds_toArray, List.set_cons_zero, List.set_cons_succ, i64_w, i32_w]
        rfl
      refine pure_ (i := 8) (N := some 44) (v := ?_) (a' := ?_) #[true, true, true, true, true, false, true, true, true, false, false, false, false] rfl rfl (any_of HT_.out (by kernel_rfl)) (fun _ _ _ h => h) (Or.inl ⟨by rfl, ?_⟩) ?_ ?_
      rotate_left
      · intro w'
        go_simp
        with_reducible rfl
      rotate_left
      · simp only [Act.put, List.setIfInBounds_toArray, List.set_cons_zero, List.set_cons_succ, i64_w, i32_w]
        rfl
      refine pure_ (i := 9) (N := some 45) (v := ?_) (a' := ?_) #[true, true, true, true, true, false, true, true, true, true, false, false, false] rfl rfl (any_of HT_.out (by kernel_rfl)) (fun _ _ _ h => h) (Or.inl ⟨by rfl, ?_⟩) ?_ ?_
      rotate_left
      · intro w'
        go_simp
        with_reducible rfl
      rotate_left
      · simp only [Act.put, List.setIfInBounds_toArray, List.set_cons_zero, List.set_cons_succ, i64_w, i32_w]
        rfl
      refine take_ (i := 5) (N := some 41) (v := ?_) (a' := ?_) #[true, true, true, true, true, true, true, true, true, true, false, false, false] rfl rfl (take_ofW HT_.out HW_.out (by kernel_rfl)) (fun _ _ _ h => h) (Or.inl ⟨by rfl, ?_⟩) hHeld ?_ ?_
      rotate_left
      · rintro w' ⟨s0, s1⟩
        go_simp
        with_reducible rfl
      rotate_left
      · simp only [Act.put, List.setIfInBounds_toArray, List.set_cons_zero, List.set_cons_succ, i64_w, i32_w]
        rfl
      refine take_ (i := 10) (N := some 46) (v := ?_) (a' := ?_) #[true, true, true, true, true, true, true, true, true, true, true, false, false] rfl rfl (take_ofW HT_.out HW_.out (by kernel_rfl)) (fun _ _ _ h => h) (Or.inl ⟨by rfl, ?_⟩) hHeld ?_ ?_
      rotate_left
      · rintro w' ⟨s0, s1⟩
        go_simp
        with_reducible rfl
      rotate_left
      · simp only [Act.put, List.setIfInBounds_toArray, List.set_cons_zero, List.set_cons_succ, i64_w, i32_w]
        rfl
      refine last_ (i := 11) (N := some 47) #[true, true, true, true, true, true, true, true, true, true, true, true, false] rfl rfl (one_of HT_.out (by kernel_rfl)) (by decide) (fun K hK => ?_)
      refine goes_ Try.func14 (by kernel_rfl) rfl #[.pointer (some ⟨g, 0, none⟩), .int .i64 x.f0, .int .i64 x.f1] (by rfl) rfl rfl (by simp only [List.map_toArray, List.map_cons, List.map_nil]; rfl) ?_
      with_reducible refine (put_calls w.heap.size g f (ordK kk) HLS.out A cap b hl i x.f0 x.f1 w4 H4.out HXM.out (by have := HM.out.1.perm.length_eq; have := came_len l i; have := HL.out; omega) (by have := HL.out; have := HI.out; omega) HB4.out.size).mono ?_
      rintro e w5 ⟨rfl, A5, cap5, h, hc, _⟩
      refine ⟨_, rfl, ?_⟩
      have HB5 := Aside0.mk (HeapSI.chg_below HB4.out hc H4.out.fp_ge)
      have H5 := Aside0.mk h
      have HW5 := Aside0.mk (H4.out.keepR HW4.out (by decide) hc)
      clear h hc HB4 H4 HW4
      refine hK.out _ _ ?_
      clear hK K
      refine norm_ (a' := ?_) ?_ ?_
      rotate_left
      · show Act.put _ (some 47) _ = _
        simp only [Act.put, List.setIfInBounds_toArray, List.set_cons_zero, List.set_cons_succ, i64_w, i32_w]
        rfl
      refine pure_ (i := 12) (N := some 48) (v := ?_) (a' := ?_) #[true, true, true, true, true, true, true, true, true, true, true, true, true] rfl rfl (any_of HT_.out (by kernel_rfl)) (fun _ _ _ h => h) (Or.inl ⟨by rfl, ?_⟩) ?_ ?_
      rotate_left
      · intro w'
        go_simp
        with_reducible rfl
      rotate_left
      · simp only [Act.put, List.setIfInBounds_toArray, List.set_cons_zero, List.set_cons_succ, i64_w, i32_w]
        rfl
      refine done_ (done_of HT_.out (by kernel_rfl)) ?_
      have HA' := HA
      clear HA
      have HM5 : Aside0 (RelM (putL (ordK kk) hl ((i : Int) + 1) x.f0 x.f1) ((i : Int) + 1) (cameL (l.map toP) (i + 1)) ∧ HeapOK (ordK kk) (putL (ordK kk) hl ((i : Int) + 1) x.f0 x.f1)) := ⟨by rw [came_step, ← HXE.out]; exact HM.out.1.put x.f0 x.f1, putL_ok (swo_ord kk) HM.out.2 _ _ _⟩
      clear HM
      generalize putL (ordK kk) hl ((i : Int) + 1) x.f0 x.f1 = hl5 at HM5 H5
      go_wp2_with fail
      obtain ⟨lb, hlb⟩ : ∃ lb, lb = lastUp (l.map toP) l.length i := ⟨_, rfl⟩
      have HLB := Aside0.mk hlb
      clear hlb
      refine (cabstandlaw07_last.calls (l.length + 1) (some ad) c0 l i lb _ (Kd.C_below HR.out HB5.out) HC.out (by rw [HLB.out]; exact last_eq l i (by omega) (by have := HL.out; omega))).mono ?_
      rintro e w6 ⟨rfl, nq, rfl⟩
      have HB6 : Aside0 (Below w.heap.size w (w5.drewN nq)) := ⟨pw_below_drewN HB5.out nq⟩
      have H6 : Aside0 (HAt (w5.drewN nq) w.heap.size g (.func (.func f) #[] #[]) A5 cap5 b hl5 ((i : Int) + 1)) := ⟨H5.out.below (pw_below_drewN (Below.refl _ _) nq)⟩
      have HW6 : Aside0 (k49.R 49 (w5.drewN nq) w.heap.size (fun _ => True) u7 (wantS l i)) := ⟨Kd.R_drewN HW5.out nq⟩
      have hx := HX.out _ HB6.out
      have hx0 := hx.1
      have hx1 := hx.2
      clear hx HB5 H5 HW5
      generalize w5.drewN nq = w6 at HB6 H6 HW6 hx0 hx1 ⊢
      cases lb with
      | false =>
        go_wp2
        go_roundg gk
        case measure => omega
        case rel => exact ⟨i + 1, hl5, A5, cap5, by first | rfl | (simp; unfold wrap64; have := HL.out; have := HI.out; omega), ⟨by have := HI.out; omega⟩, H6, HM5, ⟨by rw [wantS_succ, if_neg (by rw [← HLB.out]; decide)]; exact HW6.out⟩, HB6⟩
      | true =>
        go_wp2_with ((with_reducible refine gate_builtin (b := .append) (xs := #[.tmp 52, .tmp 57]) rfl ?_); at_builtin; refine Kd.R_append k49 (w0 := w) w.heap.size rfl (.tmp 52) (.tmp 57) 41 49 (.agg #[.int .i64 0, .int .i64 0]) 16 rfl Try.underlying41 infoSS rfl (by decide) (by omega) u7 (wantS l i) x [.int .i64 x.f0, .int .i64 x.f1] (fun _ => True) (fun _ => False) rfl rfl (k49_mkM _ _ _ x) (fun _ hk => hk.elim) (fun _ _ => trivial) HW6.out HB6.out HB6.out.size (by have := wantS_len l i; have := HL.out; omega) ?_; intro u8 w7 h7 hb7 hg7 _)
        have HW7 : Aside0 (k49.R 49 w7 w.heap.size (fun _ => True) u8 (wantS l (i + 1))) := ⟨by rw [wantS_succ, if_pos HLB.out.symm, ← HXE.out]; exact h7⟩
        have H7 := Aside0.mk (H6.out.grown hg7 (Kd.R_typed HW6.out) (by decide) (by decide))
        have HB7 := Aside0.mk hb7
        clear h7 hb7 hg7 HW6 H6 HB6
        go_wp2
        go_roundg gk
        case measure => omega
        case rel => exact ⟨i + 1, hl5, A5, cap5, by first | rfl | (simp; unfold wrap64; have := HL.out; have := HI.out; omega), ⟨by have := HI.out; omega⟩, H7, HM5, HW7, HB7⟩
end Go.Proofs.Ytibipbfmhbkpiaa.HeapII
