/- Paths: the costs from a node. Conditions: those that stand in the theorem. Written in session 6. -/
import Derived.Test.YtgbfhhmmkhjhhaaCPathsHS
namespace Go.Proofs.Ytgbfhhmmkhjhhaa.Paths
open Go.RowKit Go.Proofs.YtgbfhhmmkhjhhaaW.PrintWords Go.Proofs.YtgbfhhmmkhjhhaaW.PrintLast Go.Proofs.YtgbfhhmmkhjhhaaW.PrintMore Go.Proofs.Ytgbfhhmmkhjhhaa.HeapW Go.Proofs.Ytgbfhhmmkhjhhaa.HeapP Go.Proofs.Ytgbfhhmmkhjhhaa.MapAt Go.Proofs.Ytgbfhhmmkhjhhaa.Dij
open Go.Proofs.Ytgbfhhmmkhjhhaa.HeapIR hiding It Pt
open Go.Proofs.Ytgbfhhmmkhjhhaa.Roads (flat_keep R_ty Flat kRd rd_at)
set_option linter.unusedVariables false
set_option linter.unusedSimpArgs false
theorem gate_upon {P : Program} {o : Oper} {a : Act} {K : Act → World → Prop} {Q : Exit → Act → World → Prop} {r : Result Next} (h : Oper.upon P o a K Q r) : Oper.upon P o a K Q r := h
theorem infoInt : (Try.prog.info? 3).map (fun i => (i.zero, i.size, i.bytes)) = some (some (.int .i64 0), 1, 8) := by kernel_rfl
theorem infoRk : (Try.prog.info? 83).map (·.size) = some 2 := by kernel_rfl
theorem infoRo : (Try.prog.info? 40).map (·.size) = some 3 := by kernel_rfl
/-- a function value that answers each node's roads, in every later world -/
structure Asks (w : World) (n : Nat) (f : Nat) (bnd cap : Array Value) (outf : Int → List Rd) : Prop where
  fn : ∃ fn : Func, Try.prog.funcs[f]? = some fn ∧ (fn.name == "runtime.NumGoroutine") = false ∧ fn.body.isSome = true
  calls : ∀ W, Below w.heap.size w W → ∀ v, 0 ≤ v → v < (n : Int) → Calls Try.prog f (bnd ++ #[.int .i64 v] ++ cap) W fun e w' => ∃ A c, e = .returned (.slice A (outf v).length c) ∧ Kd.C kRd w' A (outf v).length (outf v) ∧ (outf v).length ≤ c ∧ Below W.heap.size W w' ∧ ∀ a : Addr, A = some a → (a.block < w.heap.size ∨ W.heap.size ≤ a.block) ∧ a.block < w'.heap.size
  net : Net n outf
  len : ∀ v, 0 ≤ v → v < (n : Int) → (outf v).length ≤ 4096
set_option maxHeartbeats 8000000 in
set_option maxRecDepth 100000 in
theorem costs_calls (n : Nat) (s : Int) (f : Nat) (bnd cap : Array Value) (outf : Int → List Rd) (w : World) (hA : Asks w n f bnd cap outf) (hn : n ≤ 4096) (hs : 0 ≤ s ∧ s < n) :
    Calls Try.prog 27 #[.int .i64 (n : Int), .int .i64 s, .func (.func f) bnd cap] w fun e w' => ∃ (A : Option Addr) (cc : Nat) (ov : Value) (c o : List Int), e = .returned (.tuple #[.slice A n cc, ov]) ∧ kInt.R 3 w' w.heap.size (fun _ => True) (.slice A n cc) c ∧ kInt.R 3 w' w.heap.size (fun _ => True) ov o ∧ Dist n outf s c ∧ Ord n c o ∧ Below w.heap.size w w' := by
  have HA := Aside0.mk hA
  have HN := Aside0.mk hn
  have HS := Aside0.mk hs
  clear hA hn hs
  go_enter Try.func27, Try.ntmps27
  go_wp2_with ((with_reducible refine gate_dst (N := 18) rfl ?_); refine Kd.R_make kInt (w0 := w) w.heap.size 3 rfl (N := 18) rfl 32 (.tmp 17) (.tmp 17) rfl (n : Int) rfl rfl Try.underlying32 (.int .i64 0) 8 infoInt rfl (by decide) (by omega) 0 (ok := fun _ => True) (okp := fun _ => True) rfl (fun _ h => h) trivial (by omega) (by rw [Int.toNat_natCast]; have := HN.out; omega) (Below.refl _ _) (Nat.le_refl _) ?_; intro u9 w9 h9 hb9 hg9 _)
  rw [Int.toNat_natCast] at h9
  obtain ⟨gc, cc, hu9, hg1, hg2, _⟩ := Kd.R_form h9 (by rw [List.length_replicate]; have := HS.out; omega)
  rw [List.length_replicate] at hu9
  subst hu9
  have H9 := Aside0.mk h9
  have HB9 := Aside0.mk hb9
  have HGC := Aside0.mk (And.intro hg1 hg2)
  clear h9 hb9 hg9 hg1 hg2
  -- each cost -1
  go_wp2_with ((with_reducible refine gate_upon ?_); go_simp)
  go_loopg [21] n (fun kq v21 w' => ∃ i : Nat, v21 = .int .i64 i ∧ Aside0 (i + kq = n) ∧ Aside0 (kInt.R 3 w' w.heap.size (fun _ => True) (.slice (some ⟨gc, 0, none⟩) n cc) (List.replicate i (-1) ++ List.replicate kq 0)) ∧ Aside0 (Below w.heap.size w w'))
  case atStart => exact ⟨0, rfl, ⟨by omega⟩, ⟨by simpa using H9.out⟩, HB9⟩
  case round =>
    clear H9 HB9
    obtain ⟨i, rfl, HI, HR, HB⟩ := hrel
    cases gk with
    | zero =>
      have hi : n = i := by have := HI.out; omega
      subst hi
      have hgt : decide (n < n) = false := decide_eq_false (by omega)
      have HR0 : Aside0 (kInt.R 3 wr w.heap.size (fun _ => True) (.slice (some ⟨gc, 0, none⟩) n cc) (List.replicate n (-1))) := ⟨by simpa using HR.out⟩
      clear HR
      go_wp2_with fail
      refine (heap_new wr).mono ?_
      rintro e w1 ⟨gh, F0, rfl, hh, hb1⟩
      have HHL := Aside0.mk hh
      have HH1 := Aside0.mk (hh.lower HB.out.size)
      have HB1 := Aside0.mk (below_step HB.out hb1)
      have HR1 := Aside0.mk (Kd.R_below HR0.out hb1)
      have HGW : Aside0 (gc < wr.heap.size) := ⟨Kd.R_lt HR0.out gc (by simp [Value.ownBlock])⟩
      have HWR : Aside0 (w.heap.size ≤ wr.heap.size) := ⟨HB.out.size⟩
      clear hh hb1 HR0 HB
      go_wp2_with fail
      refine (HH1.out.put s (0, s) (okK_small (by have := HS.out; have := HN.out; omega)) (by simp) (by omega) HB1.out.size).mono ?_
      rintro e w2 ⟨rfl, F1, hh2, hc2, hf2⟩
      have HCS : Aside0 (CS w w2 gc cc gh F1 (.slice none 0 0) (List.replicate n (-1)) [] [(s, (0, s), 1)] 1) := ⟨by
        have h0 : CS w w1 gc cc gh F0 (.slice none 0 0) (List.replicate n (-1)) [] [] 0 := ⟨by rw [List.length_replicate]; exact HR1.out, Kd.R_nil _ _ _ _ _, HH1.out, HB1.out, fun k => by have := (HHL.out.ge gc k).1; have := HGW.out; omega, fun k hk => by simp [Value.ownBlock] at hk⟩
        exact h0.heapd hh2 hc2 hf2⟩
      have HD : Aside0 (DInv n outf outf s (List.replicate n (-1)) [] [(s, (0, s), 1)]) := ⟨DInv.start HS.out.1 HS.out.2⟩
      clear hh2 hc2 hf2 HH1 HB1 HR1 HHL
      go_wp2_with ((with_reducible refine gate_upon ?_); go_simp)
      go_loopg [6, 7] (n + 1) (fun kq v6 v7 w' => ∃ (F : Nat → Prop) (c o : List Int) (M : List It) (cnt : Nat), v6 = .slice (some ⟨gc, 0, none⟩) n cc ∧ Aside0 (n + 1 ≤ o.length + kq) ∧ Aside0 (CS w w' gc cc gh F v7 c o M cnt) ∧ Aside0 (DInv n outf outf s c o M) ∧ Aside0 (cnt ≤ 1 + 4096 * o.length))
      case atStart => exact ⟨F1, List.replicate n (-1), [], [(s, (0, s), 1)], 1, rfl, ⟨by simp⟩, HCS, HD, ⟨by simp⟩⟩
      case round =>
        clear HCS HD
        obtain ⟨F, c, o, M, cnt, rfl, HK, HCS, HD, HCN⟩ := hrel
        have HML : Aside0 (M.length ≤ n) := ⟨keys_le HCS.out.heap.keys (fun x hx => ⟨(HD.out.item x hx).2.1, (HD.out.item x hx).2.2.1⟩)⟩
        cases hm : leastF lex (fun i => (at_ M i).2.1) M.length with
        | none =>
          have hM := least_none hm
          subst hM
          clear hm
          go_wp2_with fail
          refine HCS.out.heap.pop_none.mono ?_
          rintro e w3 ⟨rfl, hb3⟩
          have HCS3 := Aside0.mk (HCS.out.step hb3)
          have HX3 := Aside0.mk (blk_new w3 (.cells #[.int .i64 0, .int .i64 0] 83))
          clear hb3 HCS
          go_wp2_with (first | ((with_reducible refine gate_store (t := 83) (p := 11) (v := .tmp 38) rfl ?_); refine wpList_store_row rfl 83 (.tmp 11) (.tmp 38) rfl w3.heap.size #[.int .i64 0, .int .i64 0] rfl rfl _ _ HX3.out infoRk rfl (by simp [Value.oneCell']) ?_; have hs := chg_row (cs := #[.int .i64 0, .int .i64 0]) HX3.out; have HX4 := Aside0.mk hs.1; have hbx := (Chg.of_below (F := (fun _ => False)) (below_alloc (Below.refl w3.heap.size w3) (.cells #[.int .i64 0, .int .i64 0] 83))).then hs.2 (fun i hi => Or.inr (Nat.le_of_eq (Eq.symm hi))); have HB4 : Aside0 (Below w3.heap.size w3 ((w3.alloc (.cells #[.int .i64 0, .int .i64 0] 83)).setRow w3.heap.size #[.int .i64 0, .int .i64 0])) := ⟨hbx.below (Nat.le_refl _) (fun _ q => q.elim)⟩; clear hs hbx; generalize (w3.alloc (.cells #[.int .i64 0, .int .i64 0] 83)).setRow w3.heap.size #[.int .i64 0, .int .i64 0] = w4 at HX4 HB4 ⊢) | ((with_reducible refine gate_upon ?_); go_simp))
          have HCS4 := Aside0.mk (HCS3.out.step HB4.out)
          have hd := HD.out.done HS.out
          refine bodyPost_ret (results_list (rs := [.tmp 6, .tmp 7]) rfl (by simp) (.tmp (.tmp .nil))) rfl ?_
          have hcl := HD.out.len
          exact ⟨some ⟨gc, 0, none⟩, cc, _, c, o, rfl, by have := HCS4.out.cost; rwa [hcl] at this, HCS4.out.ord, hd.1, hd.2, HCS4.out.below⟩
        | some b =>
          have hp := DInv.pop HA.out.net HCS.out.heap.keys HD.out hm (x := at_ M b) rfl
          obtain ⟨u, hu⟩ : ∃ u, u = (at_ M b).1 := ⟨_, rfl⟩
          obtain ⟨d, hd⟩ : ∃ d, d = (at_ M b).2.1.1 := ⟨_, rfl⟩
          obtain ⟨d2, hd2⟩ : ∃ d2, d2 = (at_ M b).2.1.2 := ⟨_, rfl⟩
          rw [← hu, ← hd] at hp
          obtain ⟨hp1, hp2, hp3, hp4, hu0, hun, hd0, hd1⟩ := hp
          have HD2 := Aside0.mk hp1
          have HMX := Aside0.mk hp3
          have HCU := Aside0.mk hp4
          have HUU := Aside0.mk (And.intro hu0 hun)
          have HDD := Aside0.mk (And.intro hd0 hd1)
          have HMM := Aside0.mk hm
          have HU := Aside0.mk (And.intro hu (And.intro hd hd2))
          have HOL : Aside0 (o.length + 1 ≤ n) := ⟨by have := hp1.le; rw [List.length_append] at this; exact this⟩
          clear hp1 hp2 hp3 hp4 hm hd0 hd1 hu hd hd2
          go_wp2_with fail
          refine (HCS.out.heap.pop HMM.out (by have := HML.out; have := HN.out; omega)).mono ?_
          rintro e w3 ⟨rfl, hh3, hc3⟩
          rw [← HU.out.1] at hh3
          rw [← HU.out.1, ← HU.out.2.1, ← HU.out.2.2]
          have HCS3 := Aside0.mk (HCS.out.heapd hh3 hc3 (fun k hk => Or.inl hk))
          have HX3 := Aside0.mk (blk_new w3 (.cells #[.int .i64 0, .int .i64 0] 83))
          have HFX : Aside0 (¬ F w3.heap.size) := ⟨fun q => by have := (HCS3.out.heap.ge _ q).2; omega⟩
          have HOW : Aside0 (∀ k, (Value.ownBlock u7) = some k → k < w3.heap.size) := ⟨fun k hk => Kd.R_lt HCS3.out.ord k hk⟩
          clear hh3 hc3 HCS
          go_upto_region 12 with (first | ((with_reducible refine gate_store (t := 83) (p := 11) (v := .tmp 38) rfl ?_); refine wpList_store_row rfl 83 (.tmp 11) (.tmp 38) rfl w3.heap.size #[.int .i64 d, .int .i64 d2] rfl rfl _ _ HX3.out infoRk rfl (by simp [Value.oneCell']) ?_; have hs := chg_row (cs := #[.int .i64 d, .int .i64 d2]) HX3.out; have HX4 := Aside0.mk hs.1; have hbx := (Chg.of_below (F := (fun _ => False)) (below_alloc (Below.refl w3.heap.size w3) (.cells #[.int .i64 0, .int .i64 0] 83))).then hs.2 (fun i hi => Or.inr (Nat.le_of_eq (Eq.symm hi))); have HB4 : Aside0 (Below w3.heap.size w3 ((w3.alloc (.cells #[.int .i64 0, .int .i64 0] 83)).setRow w3.heap.size #[.int .i64 d, .int .i64 d2])) := ⟨hbx.below (Nat.le_refl _) (fun _ q => q.elim)⟩; clear hs hbx; generalize (w3.alloc (.cells #[.int .i64 0, .int .i64 0] 83)).setRow w3.heap.size #[.int .i64 d, .int .i64 d2] = w4 at HX4 HB4 ⊢) | ((with_reducible refine gate_upon ?_); go_simp))
          have HCS4 := Aside0.mk (HCS3.out.step HB4.out)
          obtain ⟨gx, hgx⟩ : ∃ gx, gx = w3.heap.size := ⟨_, rfl⟩
          rw [← hgx] at HX4 HOW HFX
          rw [← hgx]
          have HGX : Aside0 (gx < w4.heap.size) := ⟨blk_lt HX4.out⟩
          have HGC4 : Aside0 (gc < gx) := ⟨by rw [hgx]; exact HCS3.out.gc_lt⟩
          clear hgx HCS3 HX3 HB4
          have HLC : Aside0 (c.length = n) := ⟨HD.out.len⟩
          have hfz := (Kd.R_celln (n := n) (d := (-1 : Int)) (by have := HCS4.out.cost; rwa [HLC.out] at this) u hu0 hun).2
          have hce := (Kd.R_celln (n := n) (d := (-1 : Int)) (by have := HCS4.out.cost; rwa [HLC.out] at this) u hu0 hun).1
          have hcx : w4.cell? ⟨gx, 0, none⟩ = some (.int .i64 d) := (blk_cell HX4.out 0).trans rfl
          go_upto_region 13 with ((with_reducible refine gate_upon ?_); go_simp)
          clear hfz hce hcx
          have HCS5 := Aside0.mk (HCS4.out.setc u d)
          have HX5 := Aside0.mk (((Roads.grown_cell w4 gc u.toNat (.int .i64 d)).block gx HGX.out (fun e => by have := Option.some.inj e; have := HGC4.out; omega)).trans HX4.out)
          obtain ⟨c1, hc1⟩ : ∃ c1, c1 = c.set u.toNat d := ⟨_, rfl⟩
          rw [← hc1] at HCS5 HD2 HMX HCU
          clear hc1 HCS4 HX4 HGX HLC HGC4
          generalize w4.setCell ⟨gc, u.toNat, none⟩ (.int .i64 d) = w5 at HCS5 HX5 ⊢
          go_upto_region 14 with (first | ((with_reducible refine gate_dst (N := 52) rfl ?_); refine Kd.R_append kInt (w0 := w) w.heap.size rfl (.tmp 49) (.tmp 51) 32 3 (.int .i64 0) 8 rfl Try.underlying32 infoInt rfl (by decide) (by omega) u7 o u [.int .i64 u] (fun _ => True) (fun _ => False) rfl rfl rfl (fun _ hk => hk.elim) (fun _ _ => trivial) HCS5.out.ord HCS5.out.below HCS5.out.below.size (by have := HOL.out; have := HN.out; omega) ?_; intro ov6 w6 ho hb hg_ hat; have HCS6 := Aside0.mk (HCS5.out.app ho hb hg_ hat); have HX6 := Aside0.mk ((hg_.block gx (blk_lt HX5.out) (fun e => by have := HOW.out gx e.symm; omega)).trans HX5.out); clear ho hb hg_ hat HCS5 HX5) | ((with_reducible refine gate_upon ?_); go_simp))
          obtain ⟨fn_, hfn1, hfn2, hfn3⟩ := HA.out.fn
          have HFN := Aside0.mk (And.intro hfn1 (And.intro hfn2 hfn3))
          clear hfn1 hfn2 hfn3
          obtain ⟨L, hL⟩ : ∃ L, L = (outf u).length := ⟨_, rfl⟩
          have HL := Aside0.mk hL
          clear hL
          go_wp2_with (first | ((with_reducible refine gate_dst (N := 55) rfl ?_); refine wpList_via HFN.out.1 HFN.out.2.1 HFN.out.2.2 #[.int .i64 u] rfl rfl rfl (by simp only [List.map_toArray, List.map_cons, List.map_nil]; rfl) ?_; refine (HA.out.calls w6 HCS6.out.below u HUU.out.1 HUU.out.2).mono ?_; rintro e w7 ⟨A7, c7, rfl, hC7, hlc7, hb7, hfar⟩; refine ⟨_, rfl, ?_⟩; rw [← HL.out] at hC7 hlc7; rw [← HL.out]; have HC7 : Aside0 (Seen w7 A7 L (outf u) F) := ⟨⟨hC7, fun a ha => ⟨fun q => by have := HCS6.out.heap.ge _ q; have := (hfar a ha).1; omega, (hfar a ha).2⟩⟩⟩; have HCS7 := Aside0.mk (HCS6.out.step hb7); have HX7 := Aside0.mk ((hb7.block gx (blk_lt HX6.out)).trans HX6.out); clear hC7 hlc7 hb7 hfar HCS6 HX6) | ((with_reducible refine gate_upon ?_); go_simp))
          have HD7 : Aside0 (DInv n outf (outK outf u 0) s c1 (o ++ [u]) (M.filter (fun y => decide (y.1 ≠ u)))) := ⟨HD2.out.over' (fun v _ r hr => Or.inl (by rw [outK_zero] at hr; exact hr))⟩
          clear HD2
          go_loopg [57] L (fun kq v57 w' => ∃ (k : Nat) (F : Nat → Prop) (M : List It) (cnt : Nat), v57 = .int .i64 k ∧ Aside0 (k + kq = L) ∧ Aside0 (CS w w' gc cc gh F ov6 c1 (o ++ [u]) M cnt) ∧ Aside0 (DInv n outf (outK outf u k) s c1 (o ++ [u]) M) ∧ Aside0 (Seen w' A7 L (outf u) F) ∧ Aside0 (w'.heap[gx]? = some (.cells #[.int .i64 d, .int .i64 d2] 83 (0, 0)) ∧ ¬ F gx) ∧ Aside0 (cnt ≤ 1 + 4096 * o.length + k))
          case atStart => exact ⟨0, F, _, cnt, rfl, ⟨by omega⟩, HCS7, HD7, HC7, ⟨HX7.out, HFX.out⟩, HCN⟩
          case round =>
            clear HCS7 HD7 HX7 HCN HC7 HFX HOW HMM HU
            obtain ⟨k, F2, M2, cnt2, rfl, HKK, HCI, HDI, HCR, HXI, HCC⟩ := hrel
            cases gk with
            | zero =>
              have hk : L = k := by have := HKK.out; omega
              subst hk
              have hgt : decide (L < L) = false := decide_eq_false (by omega)
              go_wp2
              go_roundg (n - o.length)
              case measure => have := HK.out; have := HOL.out; omega
              case rel => exact ⟨F2, c1, o ++ [u], M2, cnt2, rfl, ⟨by rw [List.length_append]; simp; have := HOL.out; omega⟩, HCI, ⟨by have := HDI.out; rwa [outK_full outf u (by rw [HL.out]; exact Nat.le_refl _)] at this⟩, ⟨by rw [List.length_append]; simp; have := HCC.out; have := HA.out.len u HUU.out.1 HUU.out.2; rw [← HL.out] at this; omega⟩⟩
            | succ gk2 =>
              have hkl : k < L := by have := HKK.out; omega
              have hlt : decide (k < L) = true := decide_eq_true hkl
              have hltI : (k : Int) < L := by omega
              obtain ⟨a, x, ha, hlx, hcx⟩ := rd_at HCR.out.c HL.out (by rw [← HL.out]; exact hkl)
              have HMEM : Aside0 (x ∈ outf u) := ⟨List.mem_of_getElem? hlx⟩
              have HLX := Aside0.mk hlx
              have hnet := HA.out.net.road u x HUU.out.1 HUU.out.2 HMEM.out
              obtain ⟨q0, q1, q2⟩ := hcx wr (Below.refl _ _)
              obtain ⟨t, ht⟩ : ∃ t, t = x.2.1 := ⟨_, rfl⟩
              obtain ⟨co, hco⟩ : ∃ co, co = x.2.2 := ⟨_, rfl⟩
              have HTX := Aside0.mk (And.intro ht hco)
              rw [← ht] at q1 hnet
              rw [← hco] at q2 hnet
              obtain ⟨ht0, htn, hco1, hco2⟩ := hnet
              have HT := Aside0.mk (And.intro ht0 (And.intro htn (And.intro hco1 hco2)))
              have HXA := Aside0.mk (blk_new wr (.cells #[.int .i64 0, .int .i64 0, .int .i64 0] 40))
              have hwk : wrap64 ((k : Int) + 1) = (k : Int) + 1 := by unfold wrap64; have := HKK.out; have := HA.out.len u HUU.out.1 HUU.out.2; rw [← HL.out] at this; omega
              subst ha
              clear hlx hcx ht hco
              go_upto_region 17 with (first | ((with_reducible refine gate_store (t := 40) (p := 14) (v := .tmp 60) rfl ?_); refine wpList_store_row rfl 40 (.tmp 14) (.tmp 60) rfl wr.heap.size #[.int .i64 x.1, .int .i64 t, .int .i64 co] rfl rfl _ _ HXA.out infoRo rfl (by simp [Value.oneCell']) ?_; have hs := chg_row (cs := #[.int .i64 x.1, .int .i64 t, .int .i64 co]) HXA.out; have HXB := Aside0.mk hs.1; have hbx := (Chg.of_below (F := (fun _ => False)) (below_alloc (Below.refl wr.heap.size wr) (.cells #[.int .i64 0, .int .i64 0, .int .i64 0] 40))).then hs.2 (fun i hi => Or.inr (Nat.le_of_eq (Eq.symm hi))); have HBB : Aside0 (Below wr.heap.size wr ((wr.alloc (.cells #[.int .i64 0, .int .i64 0, .int .i64 0] 40)).setRow wr.heap.size #[.int .i64 x.1, .int .i64 t, .int .i64 co])) := ⟨hbx.below (Nat.le_refl _) (fun _ q => q.elim)⟩; clear hs hbx; generalize (wr.alloc (.cells #[.int .i64 0, .int .i64 0, .int .i64 0] 40)).setRow wr.heap.size #[.int .i64 x.1, .int .i64 t, .int .i64 co] = wB at HXB HBB ⊢) | ((with_reducible refine gate_upon ?_); go_simp))
              clear q0 q1 q2
              have HCB := Aside0.mk (HCI.out.step HBB.out)
              have HXJ := Aside0.mk ((HBB.out.block gx (blk_lt HXI.out.1)).trans HXI.out.1)
              have HCRB := Aside0.mk (HCR.out.step HBB.out)
              have HF2 : Aside0 (¬ F2 wr.heap.size) := ⟨fun q => by have := (HCI.out.heap.ge _ q).2; omega⟩
              have HFG : Aside0 (¬ F2 gx) := ⟨HXI.out.2⟩
              obtain ⟨gy, hgy⟩ : ∃ gy, gy = wr.heap.size := ⟨_, rfl⟩
              rw [← hgy] at HXB HF2
              rw [← hgy]
              clear hgy HXA HXI HBB HCI HCR
              obtain ⟨z, hz⟩ : ∃ z, z = cv c1 t := ⟨_, rfl⟩
              have HZ := Aside0.mk hz
              have hcz : wB.cell? ⟨gc, t.toNat, none⟩ = some (.int .i64 z) := by
                have h0 := (Kd.R_celln (n := n) (d := (-1 : Int)) (by have := HCB.out.cost; rwa [HDI.out.len] at this) t ht0 htn).1
                rw [hz]
                exact h0
              have hy1 : wB.cell? ⟨gy, 1, none⟩ = some (.int .i64 t) := (blk_cell HXB.out 1).trans rfl
              clear hz
              by_cases h0 : 0 ≤ z
              · have hd0 : decide (0 ≤ z) = true := decide_eq_true h0
                have HZ0 := Aside0.mk h0
                clear h0
                go_wp2_with ((with_reducible refine gate_upon ?_); go_simp)
                go_roundg gk2
                case measure => omega
                case rel => exact ⟨k + 1, F2, M2, cnt2, by first | rfl | (simp; done) | (rw [hwk]; rfl), ⟨by have := HKK.out; omega⟩, HCB, ⟨HDI.out.over' (fun v hv r hr => by
                    rcases outK_mem HLX.out hr with q | ⟨rfl, rfl⟩
                    · exact Or.inl q
                    · right; left
                      rw [← HTX.out.1, ← HTX.out.2, ← HZ.out]
                      refine ⟨HZ0.out, ?_⟩
                      have hm := HMX.out t (HDI.out.all t HT.out.1 HT.out.2.1 (by rw [← HZ.out]; exact HZ0.out))
                      rw [HCU.out, HZ.out]
                      have := HT.out.2.2.1
                      omega)⟩, HCRB, ⟨HXJ.out, HFG.out⟩, ⟨by have := HCC.out; omega⟩⟩
              · have hd0 : decide (0 ≤ z) = false := decide_eq_false h0
                have HZN : Aside0 (cv c1 t = -1) := ⟨by have := HDI.out.ge t ht0; have := HZ.out; omega⟩
                have HOKT := Aside0.mk (okK_small (k := t) (by have := HN.out; omega))
                have HKY := Aside0.mk HCB.out.heap.keys
                have HM2 : Aside0 (M2.length < 4000000000000) := ⟨by have := keys_le HKY.out (fun y hy => ⟨(HDI.out.item y hy).2.1, (HDI.out.item y hy).2.2.1⟩); have := HN.out; omega⟩
                have HPUT : Aside0 ((∀ y ∈ M2, y.1 = t → d + co < y.2.1.1) → DInv n outf (outK outf u (k + 1)) s c1 (o ++ [u]) (M2.filter (fun y => decide (y.1 ≠ t)) ++ [(t, (d + co, t), ((cnt2 : Int) + 1))])) := ⟨fun hM => by
                  have hp := HDI.out.put HKY.out (u := u) (r := x) (by simp) HMEM.out (by rw [← HTX.out.2]; exact HT.out.2.2.1) (by rw [← HTX.out.2]; exact HT.out.2.2.2) (by rw [← HTX.out.1]; exact HT.out.1) (by rw [← HTX.out.1]; exact HT.out.2.1) (fun v hv => by rw [HCU.out]; exact HMX.out v hv) (by rw [← HTX.out.1]; exact HZN.out) (by rw [HCU.out, ← HTX.out.1, ← HTX.out.2]; exact hM) ((cnt2 : Int) + 1)
                  rw [HCU.out, ← HTX.out.1, ← HTX.out.2] at hp
                  refine hp.over' (fun v hv r hr => ?_)
                  rcases outK_mem HLX.out hr with q | ⟨q1, q2⟩
                  · exact Or.inl q
                  · right; right
                    refine ⟨_, List.mem_append.2 (Or.inr (List.mem_singleton.2 rfl)), ?_, ?_⟩
                    · rw [q2]; exact HTX.out.1
                    · rw [q1, q2, HCU.out, ← HTX.out.2]; exact Int.le_refl _⟩
                have HNO : Aside0 ((∃ y ∈ M2, y.1 = t ∧ y.2.1.1 ≤ d + co) → DInv n outf (outK outf u (k + 1)) s c1 (o ++ [u]) M2) := ⟨fun hM => by
                  refine HDI.out.over' (fun v hv r hr => ?_)
                  rcases outK_mem HLX.out hr with q | ⟨q1, q2⟩
                  · exact Or.inl q
                  · right; right
                    obtain ⟨y, hy, e1, e2⟩ := hM
                    refine ⟨y, hy, ?_, ?_⟩
                    · rw [q2, e1]; exact HTX.out.1
                    · rw [q1, q2, HCU.out, ← HTX.out.2]; exact e2⟩
                have HDC : Aside0 (0 ≤ d + co ∧ d + co ≤ 8589934592) := ⟨by have := HDD.out; have := HT.out; have := HOL.out; have := HN.out; omega⟩
                have HCN2 : Aside0 (cnt2 < 4000000000000) := ⟨by have := HCC.out; have := HA.out.len u HUU.out.1 HUU.out.2; rw [← HL.out] at this; have := HOL.out; have := HN.out; omega⟩
                clear h0
                cases hj : idxL M2 t with
                | none =>
                  have HJ := Aside0.mk hj
                  clear hj
                  go_wp2_with (fail)
                  refine (HCB.out.heap.rank_none t HOKT.out HJ.out).mono ?_
                  rintro e wC ⟨rfl, hbC⟩
                  have HCB2 := Aside0.mk (HCB.out.step hbC)
                  have HXB2 := Aside0.mk ((hbC.block gy (blk_lt HXB.out)).trans HXB.out)
                  have HXJ2 := Aside0.mk ((hbC.block gx (blk_lt HXJ.out)).trans HXJ.out)
                  have HCR2 := Aside0.mk (HCRB.out.step hbC)
                  have HXD := Aside0.mk (blk_new wC (.cells #[.int .i64 0, .int .i64 0] 83))
                  clear hbC HCB HXB HXJ HCRB hcz hy1
                  go_upto_region 19 with (first | ((with_reducible refine gate_store (t := 83) (p := 15) (v := .tmp 72) rfl ?_); refine wpList_store_row rfl 83 (.tmp 15) (.tmp 72) rfl wC.heap.size #[.int .i64 0, .int .i64 0] rfl rfl _ _ HXD.out infoRk rfl (by simp [Value.oneCell']) ?_; have hs := chg_row (cs := #[.int .i64 0, .int .i64 0]) HXD.out; have HXE := Aside0.mk hs.1; have hbx := (Chg.of_below (F := (fun _ => False)) (below_alloc (Below.refl wC.heap.size wC) (.cells #[.int .i64 0, .int .i64 0] 83))).then hs.2 (fun i hi => Or.inr (Nat.le_of_eq (Eq.symm hi))); have HBD : Aside0 (Below wC.heap.size wC ((wC.alloc (.cells #[.int .i64 0, .int .i64 0] 83)).setRow wC.heap.size #[.int .i64 0, .int .i64 0])) := ⟨hbx.below (Nat.le_refl _) (fun _ q => q.elim)⟩; clear hs hbx; generalize (wC.alloc (.cells #[.int .i64 0, .int .i64 0] 83)).setRow wC.heap.size #[.int .i64 0, .int .i64 0] = wD at HXE HBD ⊢) | ((with_reducible refine gate_upon ?_); go_simp))
                  have HCB3 := Aside0.mk (HCB2.out.step HBD.out)
                  have HXB3 := Aside0.mk ((HBD.out.block gy (blk_lt HXB2.out)).trans HXB2.out)
                  have HXJ3 := Aside0.mk ((HBD.out.block gx (blk_lt HXJ2.out)).trans HXJ2.out)
                  have HCR3 := Aside0.mk (HCR2.out.step HBD.out)
                  clear HCB2 HXB2 HXJ2 HCR2 HXD HBD
                  have hy1 : wD.cell? ⟨gy, 1, none⟩ = some (.int .i64 t) := (blk_cell HXB3.out 1).trans rfl
                  have hy2 : wD.cell? ⟨gy, 2, none⟩ = some (.int .i64 co) := (blk_cell HXB3.out 2).trans rfl
                  have hx0 : wD.cell? ⟨gx, 0, none⟩ = some (.int .i64 d) := (blk_cell HXJ3.out 0).trans rfl
                  have hwd : wrap64 (d + co) = d + co := by have := HDC.out; unfold wrap64; omega
                  go_wp2_with (fail)
                  try rw [hwd]
                  refine (HCB3.out.heap.put t (d + co, t) HOKT.out HM2.out HCN2.out HCB3.out.below.size).mono ?_
                  rintro e wE ⟨rfl, F3, hhE, hcE, hfE⟩
                  have HCE := Aside0.mk (HCB3.out.heapd hhE hcE hfE)
                  have HXJE := Aside0.mk (hcE.heap HXJ3.out HFG.out)
                  have HCRE := Aside0.mk (HCR3.out.chg hcE hfE)
                  have HFGE : Aside0 (¬ F3 gx) := ⟨fun q => by rcases hfE gx q with q | q; exact HFG.out q; have := blk_lt HXJ3.out; omega⟩
                  clear hhE hcE hfE hy1 hy2 hx0
                  go_wp2_with ((with_reducible refine gate_upon ?_); go_simp)
                  go_roundg gk2
                  case measure => omega
                  case rel => exact ⟨k + 1, F3, _, cnt2 + 1, by first | rfl | (simp; done) | (rw [hwk]; rfl), ⟨by have := HKK.out; omega⟩, HCE, ⟨HPUT.out (fun y hy e => absurd e (idx_none.1 HJ.out y hy))⟩, HCRE, ⟨HXJE.out, HFGE.out⟩, ⟨by have := HCC.out; omega⟩⟩
                | some j =>
                  obtain ⟨hj1, hj2⟩ := idx_some hj
                  have HMJ : Aside0 (at_ M2 j ∈ M2 ∧ (at_ M2 j).1 = t) := ⟨at_mem hj1, hj2⟩
                  obtain ⟨od, hod⟩ : ∃ od, od = (at_ M2 j).2.1.1 := ⟨_, rfl⟩
                  obtain ⟨od2, hod2⟩ : ∃ od2, od2 = (at_ M2 j).2.1.2 := ⟨_, rfl⟩
                  have HOD := Aside0.mk (And.intro hod hod2)
                  have HJ := Aside0.mk hj
                  clear hj hj1 hj2 hod hod2
                  go_wp2_with (fail)
                  refine (HCB.out.heap.rank t HOKT.out HJ.out).mono ?_
                  rintro e wC ⟨rfl, hbC⟩
                  rw [← HOD.out.1, ← HOD.out.2]
                  have HCB2 := Aside0.mk (HCB.out.step hbC)
                  have HXB2 := Aside0.mk ((hbC.block gy (blk_lt HXB.out)).trans HXB.out)
                  have HXJ2 := Aside0.mk ((hbC.block gx (blk_lt HXJ.out)).trans HXJ.out)
                  have HCR2 := Aside0.mk (HCRB.out.step hbC)
                  have HXD := Aside0.mk (blk_new wC (.cells #[.int .i64 0, .int .i64 0] 83))
                  clear hbC HCB HXB HXJ HCRB hcz hy1
                  go_upto_region 19 with (first | ((with_reducible refine gate_store (t := 83) (p := 15) (v := .tmp 72) rfl ?_); refine wpList_store_row rfl 83 (.tmp 15) (.tmp 72) rfl wC.heap.size #[.int .i64 od, .int .i64 od2] rfl rfl _ _ HXD.out infoRk rfl (by simp [Value.oneCell']) ?_; have hs := chg_row (cs := #[.int .i64 od, .int .i64 od2]) HXD.out; have HXE := Aside0.mk hs.1; have hbx := (Chg.of_below (F := (fun _ => False)) (below_alloc (Below.refl wC.heap.size wC) (.cells #[.int .i64 0, .int .i64 0] 83))).then hs.2 (fun i hi => Or.inr (Nat.le_of_eq (Eq.symm hi))); have HBD : Aside0 (Below wC.heap.size wC ((wC.alloc (.cells #[.int .i64 0, .int .i64 0] 83)).setRow wC.heap.size #[.int .i64 od, .int .i64 od2])) := ⟨hbx.below (Nat.le_refl _) (fun _ q => q.elim)⟩; clear hs hbx; generalize (wC.alloc (.cells #[.int .i64 0, .int .i64 0] 83)).setRow wC.heap.size #[.int .i64 od, .int .i64 od2] = wD at HXE HBD ⊢) | ((with_reducible refine gate_upon ?_); go_simp))
                  have HCB3 := Aside0.mk (HCB2.out.step HBD.out)
                  have HXB3 := Aside0.mk ((HBD.out.block gy (blk_lt HXB2.out)).trans HXB2.out)
                  have HXJ3 := Aside0.mk ((HBD.out.block gx (blk_lt HXJ2.out)).trans HXJ2.out)
                  have HCR3 := Aside0.mk (HCR2.out.step HBD.out)
                  clear HCB2 HXB2 HXJ2 HCR2 HXD HBD
                  have hy1 : wD.cell? ⟨gy, 1, none⟩ = some (.int .i64 t) := (blk_cell HXB3.out 1).trans rfl
                  have hy2 : wD.cell? ⟨gy, 2, none⟩ = some (.int .i64 co) := (blk_cell HXB3.out 2).trans rfl
                  have hx0 : wD.cell? ⟨gx, 0, none⟩ = some (.int .i64 d) := (blk_cell HXJ3.out 0).trans rfl
                  have hz0 : wD.cell? ⟨wC.heap.size, 0, none⟩ = some (.int .i64 od) := (blk_cell HXE.out 0).trans rfl
                  have hwd : wrap64 (d + co) = d + co := by have := HDC.out; unfold wrap64; omega
                  by_cases hlo : d + co < od
                  · have hdl : decide (d + co < od) = true := decide_eq_true hlo
                    have HLO := Aside0.mk hlo
                    clear hlo
                    go_wp2_with (fail)
                    try rw [hwd]
                    refine (HCB3.out.heap.put t (d + co, t) HOKT.out HM2.out HCN2.out HCB3.out.below.size).mono ?_
                    rintro e wE ⟨rfl, F3, hhE, hcE, hfE⟩
                    have HCE := Aside0.mk (HCB3.out.heapd hhE hcE hfE)
                    have HXJE := Aside0.mk (hcE.heap HXJ3.out HFG.out)
                    have HCRE := Aside0.mk (HCR3.out.chg hcE hfE)
                    have HFGE : Aside0 (¬ F3 gx) := ⟨fun q => by rcases hfE gx q with q | q; exact HFG.out q; have := blk_lt HXJ3.out; omega⟩
                    clear hhE hcE hfE hy1 hy2 hx0
                    go_wp2_with ((with_reducible refine gate_upon ?_); go_simp)
                    go_roundg gk2
                    case measure => omega
                    case rel => exact ⟨k + 1, F3, _, cnt2 + 1, by first | rfl | (simp; done) | (rw [hwk]; rfl), ⟨by have := HKK.out; omega⟩, HCE, ⟨HPUT.out (fun y hy e => by have := same_key HKY.out hy HMJ.out.1 (e.trans HMJ.out.2.symm); rw [this, ← HOD.out.1]; exact HLO.out)⟩, HCRE, ⟨HXJE.out, HFGE.out⟩, ⟨by have := HCC.out; omega⟩⟩
                  · have hdl : decide (d + co < od) = false := decide_eq_false hlo
                    have HLO := Aside0.mk hlo
                    clear hlo
                    go_wp2_with ((with_reducible refine gate_upon ?_); go_simp)
                    go_roundg gk2
                    case measure => omega
                    case rel => exact ⟨k + 1, F2, M2, cnt2, by first | rfl | (simp; done) | (rw [hwk]; rfl), ⟨by have := HKK.out; omega⟩, HCB3, ⟨HNO.out ⟨_, HMJ.out.1, HMJ.out.2, by rw [← HOD.out.1]; have := HLO.out; omega⟩⟩, HCR3, ⟨HXJ3.out, HFG.out⟩, ⟨by have := HCC.out; omega⟩⟩
    | succ gk =>
      have hlt : decide (i < n) = true := decide_eq_true (by have := HI.out; omega)
      have hin : (i : Int) < n := by have := HI.out; omega
      have hfz := (Kd.R_celln (d := (0 : Int)) HR.out (i : Int) (by omega) hin).2
      have hce := (Kd.R_celln (d := (0 : Int)) HR.out (i : Int) (by omega) hin).1
      rw [Int.toNat_natCast] at hfz hce
      have hp := Kd.R_putn HR.out (i : Int) (-1)
      rw [Int.toNat_natCast] at hp
      rw [fill_set] at hp
      have HP := Aside0.mk hp
      have HG := Aside0.mk (HB.out.setCell (p := ⟨gc, i, none⟩) HGC.out.1 (.int .i64 (-1)))
      have hwi : wrap64 ((i : Int) + 1) = (i : Int) + 1 := by unfold wrap64; have := HI.out; have := HN.out; omega
      clear hp HR HB
      go_wp2
      go_roundg gk
      case measure => omega
      case rel => exact ⟨i + 1, by first | rfl | (simp; done) | (rw [hwi]; rfl), ⟨by have := HI.out; omega⟩, HP, HG⟩
end Go.Proofs.Ytgbfhhmmkhjhhaa.Paths
