/- The law CodecCuts, walked. Written by wip/gen/cuts.py. -/
import Derived.Test.YtjijmikpoenbcaaTs
namespace Go.Proofs.Ytjijmikpoenbcaa.Codec
open Go.RowKit Go.Proofs.YtjijmikpoenbcaaW.PrintWords Go.Proofs.YtjijmikpoenbcaaW.PrintLast Go.Proofs.YtjijmikpoenbcaaW.PrintMore Go.Proofs.Ytjijmikpoenbcaa.Open Go.Proofs.Ytjijmikpoenbcaa.Q
def Bnd (n j : Nat) : Prop := n ≤ j * 1048587
theorem block_apart {v v' : Value} {n : Nat} {F : Nat → Prop} (h : v'.ownBlock = v.ownBlock ∨ ∃ b, v'.ownBlock = some b ∧ n ≤ b) (hF : ∀ k, v.ownBlock = some k → ¬ F k) (hlt : ∀ k, F k → k < n) : ∀ k, v'.ownBlock = some k → ¬ F k := by
  intro k hk q
  rcases h with h | ⟨b, h, hb⟩
  · rw [h] at hk
    exact hF k hk q
  · rw [h] at hk
    cases hk
    have := hlt _ q
    omega
theorem taken_more {rows : List (Th × Option Addr × Nat)} {x : Th × Option Addr × Nat} (h : ∀ r ∈ rows, Taken r.1) (hx : Taken x.1) : ∀ r ∈ rows ++ [x], Taken r.1 := by
  intro r hr
  rcases List.mem_append.1 hr with q | q
  · exact h r q
  · rw [List.mem_singleton.1 q]
    exact hx
theorem reps_single {α : Type} {R : α → List Value → Prop} {size : Nat} {x : α} {cs : List Value} (h : R x cs) (hl : cs.length = size) : Reps R size [x] cs := by
  refine ⟨by simp [hl], fun j p hj => ?_⟩
  have h0 : j = 0 := by
    have := (List.getElem?_eq_some_iff.1 hj).1
    simpa using this
  subst h0
  have hp : x = p := by simpa using hj
  rw [← hp, Nat.zero_mul, List.drop_zero, List.take_of_length_le (by omega)]
  exact h
theorem bnd_zero : Bnd ([] : List Int).length 0 := Nat.zero_le _
theorem bnd_next {n j : Nat} (h : Bnd n j) : Bnd n (j + 1) := Nat.le_trans h (Nat.mul_le_mul_right _ (Nat.le_succ j))
theorem bnd_step {n m j : Nat} (h : Bnd n j) (hm : m ≤ 1048587) : Bnd (n + m) (j + 1) := by
  unfold Bnd at *
  rw [Nat.succ_mul]
  omega
theorem bnd_top {n j : Nat} (h : Bnd n j) (hj : j ≤ 1048576) : n ≤ 1099523162112 := by
  unfold Bnd at h
  have : j * 1048587 ≤ 1048576 * 1048587 := Nat.mul_le_mul_right _ hj
  have e : 1048576 * 1048587 = 1099523162112 := by decide +kernel
  omega
attribute [local go_sem] max2_int min2_int max_two min_two max_three min_three max_four min_four   -- for this text's walks alone
set_option linter.unusedVariables false
set_option maxHeartbeats 8000000 in
set_option maxRecDepth 100000 in
theorem cuts_walk (A1 : Option Addr) (c1 : Nat) (ts : List Th) (at_ : Int) (w : World) (h1 : Kd.C kTh w A1 ts.length ts) (hl1 : ts.length ≤ 1048576) (ht : ∀ t ∈ ts, Good t ∧ t.t.length ≤ 1048576) :
    Calls Try.prog 12 #[.slice A1 ts.length c1, .int .i64 at_] w fun e w' => e = .returned (.bool true) ∧ Below w.heap.size w w' := by
  have H1 := Aside0.mk h1
  have HLT := Aside0.mk hl1
  have HT := Aside0.mk ht
  clear h1 hl1 ht
  go_enter Try.func12, Try.ntmps12
  go_wp2_with fail
  refine (cabstandlaw02_lives.calls true w rfl).mono ?_
  rintro e w1 ⟨rfl, hb⟩
  have HB := Aside0.mk hb
  clear hb
  go_wp2_with fail
  refine (NewWriter_calls w1).mono ?_
  rintro e w3 ⟨rfl, hw, hb⟩
  have HW3 := Aside0.mk hw
  have HB3 := Aside0.mk (below_then HB.out HB.out.size hb)
  have HBW : Aside0 (w.heap.size ≤ w1.heap.size) := ⟨HB.out.size⟩
  clear hb hw HB
  generalize w1.heap.size = bw at HW3 HBW ⊢
  go_wp2
  go_loopg [6, 7, 8] ts.length (fun kq v6 v7 v8 wr => ∃ (j : Nat) (rows : List (Th × Option Addr × Nat)), v7 = .int .i64 j ∧ Aside0 (j + kq = ts.length) ∧ Aside0 (∃ vw wl, WAt wr bw bw vw wl ∧ wl = forms (rows.map (fun r => r.1)) ∧ Bnd wl.length j ∧ rows.length ≤ j ∧ (∀ k, v6.ownBlock = some k → ¬ fp bw vw k)) ∧ Aside0 (∀ r ∈ rows, Taken r.1) ∧ Aside0 (Kd.R kTs 46 wr w.heap.size (fun _ => True) v6 (rows.map (fun r => tsOf r.1 r.2.1 r.2.2))) ∧ Aside0 (Below w.heap.size w wr) ∧ Aside0 (bw ≤ wr.heap.size))
  case atStart => exact ⟨0, [], rfl, ⟨by omega⟩, ⟨_, _, HW3.out, rfl, bnd_zero, Nat.le_refl _, fun k hk => by simp [Value.ownBlock] at hk⟩, ⟨fun r hr => by simp at hr⟩, ⟨Kd.R_nil _ _ _ _ _⟩, HB3, ⟨by have := (HW3.out.lt bw (Or.inl rfl)).2; omega⟩⟩
  case round =>
    obtain ⟨j, rows, rfl, HJ, HS, HTK, HR6, HBB, HSZ⟩ := hrel
    obtain ⟨A6, c6, he6⟩ := Kd.R_slice HR6.out
    rw [List.length_map] at he6
    subst he6
    obtain ⟨vw, wl, hw, hwf, hwl, hrl, hfp⟩ := HS.out
    have HW := Aside0.mk hw
    have HWF := Aside0.mk hwf
    have HWL := Aside0.mk hwl
    have HRL := Aside0.mk hrl
    have HFP := Aside0.mk hfp
    clear hw hwf hwl hrl hfp HS
    cases gk with
    | zero =>
      as_aux_lemma =>
        have hjl : ¬ (j : Int) < ts.length := by have := HJ.out; omega
        have HJT : Aside0 (j ≤ 1048576) := ⟨by have := HJ.out; have := HLT.out; omega⟩
        have HWB : Aside0 (wl.length ≤ 140737488355328) := ⟨by have := bnd_top HWL.out HJT.out; omega⟩
        go_wp2_with fail
        refine (wBytes_calls bw bw vw wl _ HW.out HWB.out).mono ?_
        rintro e5 w5 ⟨rfl, hblk, hb⟩
        have HB5 := Aside0.mk (below_then HBB.out HBB.out.size hb)
        have HR65 := Aside0.mk (Kd.R_below HR6.out hb)
        have HK5 := Aside0.mk hblk
        clear hb hblk HR6 HW HBB
        by_cases hz : wl.length = 0
        · have c1 : ((wl.length : Int) == 0) = true := by rw [hz]; rfl
          have hr0 : rows.length = 0 := by
            cases rows with
            | nil => rfl
            | cons r rs =>
              have h1 := taken_pos (HTK.out r (by simp))
              have h2 := congrArg List.length HWF.out
              rw [List.map_cons, forms_cons, List.length_append] at h2
              omega
          have c2 : ((rows.length : Int) == 0) = true := by rw [hr0]; rfl
          clear hz hr0
          go_wp2
          go_ret
          exact ⟨rfl, HB5.out⟩
        · have c1 : ((wl.length : Int) == 0) = false := beq_eq_false_iff_ne.mpr (by omega)
          obtain ⟨k, hk, hk0, hk1⟩ := round_n at_ wl.length (by omega) (by have := HWB.out; omega)
          have HRK := Aside0.mk hk
          clear hz hk
          go_wp2_with fail
          refine (cabstandlaw02_round.calls at_ wl.length k _ HRK.out).mono ?_
          rintro e6 w6 ⟨rfl, hd⟩
          have hb : Below w5.heap.size w5 w6 := by obtain ⟨n, rfl⟩ := hd; exact pw_below_drewN (Below.refl _ _) _
          obtain ⟨kn, rfl⟩ := Int.eq_ofNat_of_zero_le hk0
          have HKN : Aside0 (kn < wl.length) := ⟨by omega⟩
          have HB6 := Aside0.mk (below_then HB5.out HB5.out.size hb)
          have HR66 := Aside0.mk (Kd.R_below HR65.out hb)
          have HK6 := Aside0.mk ((hb.block _ (blk_lt HK5.out)).trans HK5.out)
          have hkw : (kn : Int) ≤ wl.length := by omega
          have hkw2 : kn ≤ wl.length := by omega
          clear hb hd hk0 hk1 HB5 HR65 HK5
          go_wp2_with fail
          have HL2 : Aside0 (IsBytes wl) := ⟨by
            rw [HWF.out]
            intro x hx
            unfold forms at hx
            obtain ⟨u, hu, hxu⟩ := List.mem_flatMap.1 hx
            obtain ⟨r, hr, rfl⟩ := List.mem_map.1 hu
            exact put_bytes (HTK.out r hr) x hxu⟩
          have hCk : Kd.C (Kd.int .u8) w6 (some ⟨wr.heap.size, 0, none⟩) (wl.take kn).length (wl.take kn) := by
            have h1 := bytes_at HK6.out (by have := HWB.out; omega)
            have hlen : (wl.take kn).length = kn := by rw [List.length_take]; omega
            rw [hlen]
            exact C_take h1 kn hkw2
          have hlen : (wl.take kn).length = kn := by rw [List.length_take]; omega
          rw [← hlen]
          refine (NewReader_calls (some ⟨wr.heap.size, 0, none⟩) wl.length (wl.take kn) _ hCk (by rw [hlen]; have := HWB.out; omega)).mono ?_
          rintro e7 w7 ⟨g, rfl, hr, hb⟩
          have HR7 := Aside0.mk (hr.lower HB6.out.size)
          have HB7 := Aside0.mk (below_then HB6.out HB6.out.size hb)
          have HR67 := Aside0.mk (Kd.R_below HR66.out hb)
          have HGE : Aside0 (w6.heap.size ≤ g) := ⟨hr.ge⟩
          have HRF : Aside0 (∀ k, rfp g (.slice (some ⟨w6.heap.size, 0, none⟩) (wl.take kn).length (wl.take kn).length) k → w6.heap.size ≤ k) := ⟨fun k hk => by
            rcases hk with hk | hk
            · subst hk; exact HGE.out
            · cases hk; exact Nat.le_refl _⟩
          have HCUT : Aside0 (Cut (rows.map (fun r => r.1)) (wl.take kn) 0) := ⟨Or.inl ⟨rfl, kn, by rw [← HWF.out]; exact HKN.out, by rw [← HWF.out]⟩⟩
          have HBT : Aside0 (IsBytes (wl.take kn)) := ⟨HL2.out.take _⟩
          have HLT6 : Aside0 (∀ k, (Value.slice A6 rows.length c6).ownBlock = some k → k < w6.heap.size) := ⟨fun k hk => Kd.R_lt HR66.out k hk⟩
          clear hr hb hCk hlen HK6 HB6 HR66
          go_wp2
          go_loopg [11] rows.length (fun kq v11 w2 => ∃ (i : Nat), v11 = .int .i64 i ∧ Aside0 (i + kq = rows.length) ∧ Aside0 (∃ v l e, RAt w2 w.heap.size g v l e ∧ (∀ k, rfp g v k → w6.heap.size ≤ k) ∧ IsBytes l ∧ Cut ((rows.drop i).map (fun r => r.1)) l e) ∧ Aside0 (Kd.R kTs 46 w2 w.heap.size (fun _ => True) (.slice A6 rows.length c6) (rows.map (fun r => tsOf r.1 r.2.1 r.2.2))) ∧ Aside0 (Below w.heap.size w w2))
          case atStart => exact ⟨0, rfl, ⟨by omega⟩, ⟨_, _, _, HR7.out, HRF.out, HBT.out, by rw [List.drop_zero]; exact HCUT.out⟩, HR67, HB7⟩
          case round =>
            obtain ⟨i, rfl, HI, HS2, HRR, HBI⟩ := hrel
            obtain ⟨v, l, e, hr, hrf, hby, hcut⟩ := HS2.out
            have HR := Aside0.mk hr
            have HRF2 := Aside0.mk hrf
            have HBY2 := Aside0.mk hby
            have HCUT2 := Aside0.mk hcut
            clear hr hrf hby hcut HS2
            cases gk with
            | zero =>
              have hil : ¬ (i : Int) < rows.length := by have := HI.out; omega
              have hend : e = 20 ∧ l = [] := cut_end (by have h1 := HCUT2.out; rw [List.drop_eq_nil_of_le (by have := HI.out; omega)] at h1; exact h1)
              have he := hend.1
              have hl := hend.2
              subst he
              subst hl
              clear hend
              go_wp2_with fail
              refine (rEnd_calls _ g _ _ _ _ HR.out).mono ?_
              rw [show endR [] 20 = 20 by decide]
              rintro e8 w8 ⟨rfl, rfl⟩
              go_wp2_with fail
              refine (rLeft_calls _ g _ _ _ _ HR.out).mono ?_
              rintro e9 w9 ⟨rfl, rfl⟩
              go_wp2
              go_ret
              exact ⟨rfl, HBI.out⟩
            | succ k2 =>
              have hi : i < rows.length := by have := HI.out; omega
              have hCR := (Kd.R_reads' HRR.out).2.2
              rw [List.length_map] at hCR
              obtain ⟨r, a6, hri, ha6, hcells⟩ := ts_at hCR hi
              subst ha6
              obtain ⟨u, Au, cu⟩ := r
              have HU : Aside0 (Taken u) := ⟨HTK.out (u, Au, cu) (List.mem_of_getElem? hri)⟩
              have HDROP : Aside0 ((rows.drop i).map (fun r => r.1) = u :: (rows.drop (i + 1)).map (fun r => r.1)) := ⟨by
                have hri2 : rows[i] = (u, Au, cu) := by
                  have := List.getElem?_eq_getElem hi
                  rw [hri] at this
                  exact (Option.some.inj this).symm
                rw [List.drop_eq_getElem_cons hi, hri2, List.map_cons]⟩
              have r0 : wr.cell? (a6.add (i * 16)) = some (.int .i64 u.1) := hcells 0 _ rfl
              have r1 : wr.cell? ⟨(a6.add (i * 16)).block, (a6.add (i * 16)).off + 1, none⟩ = some (.int .i64 u.kind) := by rw [<- add_next a6 (i * 16) 1 (by decide)]; exact hcells 1 _ rfl
              have r2 : wr.cell? ⟨(a6.add (i * 16)).block, (a6.add (i * 16)).off + 2, none⟩ = some (.int .u64 u.n) := by rw [<- add_next a6 (i * 16) 2 (by decide)]; exact hcells 2 _ rfl
              have r3 : wr.cell? ⟨(a6.add (i * 16)).block, (a6.add (i * 16)).off + 3, none⟩ = some (.int .i64 u.i) := by rw [<- add_next a6 (i * 16) 3 (by decide)]; exact hcells 3 _ rfl
              have r4 : wr.cell? ⟨(a6.add (i * 16)).block, (a6.add (i * 16)).off + 4, none⟩ = some (.int .i64 u.w) := by rw [<- add_next a6 (i * 16) 4 (by decide)]; exact hcells 4 _ rfl
              have r5 : wr.cell? ⟨(a6.add (i * 16)).block, (a6.add (i * 16)).off + 5, none⟩ = some (.int .u8 (rd u.id 0)) := by rw [<- add_next a6 (i * 16) 5 (by decide)]; exact hcells 5 _ rfl
              have r6 : wr.cell? ⟨(a6.add (i * 16)).block, (a6.add (i * 16)).off + 6, none⟩ = some (.int .u8 (rd u.id 1)) := by rw [<- add_next a6 (i * 16) 6 (by decide)]; exact hcells 6 _ rfl
              have r7 : wr.cell? ⟨(a6.add (i * 16)).block, (a6.add (i * 16)).off + 7, none⟩ = some (.int .u8 (rd u.id 2)) := by rw [<- add_next a6 (i * 16) 7 (by decide)]; exact hcells 7 _ rfl
              have r8 : wr.cell? ⟨(a6.add (i * 16)).block, (a6.add (i * 16)).off + 8, none⟩ = some (.int .u8 (rd u.id 3)) := by rw [<- add_next a6 (i * 16) 8 (by decide)]; exact hcells 8 _ rfl
              have r9 : wr.cell? ⟨(a6.add (i * 16)).block, (a6.add (i * 16)).off + 9, none⟩ = some (.int .u8 (rd u.id 4)) := by rw [<- add_next a6 (i * 16) 9 (by decide)]; exact hcells 9 _ rfl
              have r10 : wr.cell? ⟨(a6.add (i * 16)).block, (a6.add (i * 16)).off + 10, none⟩ = some (.int .u8 (rd u.id 5)) := by rw [<- add_next a6 (i * 16) 10 (by decide)]; exact hcells 10 _ rfl
              have r11 : wr.cell? ⟨(a6.add (i * 16)).block, (a6.add (i * 16)).off + 11, none⟩ = some (.int .u8 (rd u.id 6)) := by rw [<- add_next a6 (i * 16) 11 (by decide)]; exact hcells 11 _ rfl
              have r12 : wr.cell? ⟨(a6.add (i * 16)).block, (a6.add (i * 16)).off + 12, none⟩ = some (.int .u8 (rd u.id 7)) := by rw [<- add_next a6 (i * 16) 12 (by decide)]; exact hcells 12 _ rfl
              have r13 : wr.cell? ⟨(a6.add (i * 16)).block, (a6.add (i * 16)).off + 13, none⟩ = some (.int .i16 u.p.1) := by rw [<- add_next a6 (i * 16) 13 (by decide)]; exact hcells 13 _ rfl
              have r14 : wr.cell? ⟨(a6.add (i * 16)).block, (a6.add (i * 16)).off + 14, none⟩ = some (.int .i16 u.p.2) := by rw [<- add_next a6 (i * 16) 14 (by decide)]; exact hcells 14 _ rfl
              have r15 : wr.cell? ⟨(a6.add (i * 16)).block, (a6.add (i * 16)).off + 15, none⟩ = some (.slice Au u.t.length cu) := by rw [<- add_next a6 (i * 16) 15 (by decide)]; exact hcells 15 _ rfl
              clear hcells hri hCR
              have hil : (i : Int) < rows.length := by omega
              go_wp2_with fail
              refine (took_all w.heap.size g v l HBY2.out e _ HR.out u HU.out.good.gw.2 Au cu).mono ?_
              rintro e8 w8 ⟨A8, c8, rfl, hk, _, _⟩
              have HB8 : Aside0 (Below w.heap.size w w8) := ⟨HBI.out.trans (hk.below HBI.out.size HR.out.ge)⟩
              obtain ⟨v8, hr8, hv8, hch⟩ := hk
              have HR8 := Aside0.mk hr8
              have HRF8 : Aside0 (∀ k, rfp g v8 k → w6.heap.size ≤ k) := ⟨fun k hk => by
                rcases hk with hk | hk
                · exact HRF2.out k (Or.inl hk)
                · exact HRF2.out k (Or.inr (hv8 k hk.symm).symm)⟩
              have HRR8 := Aside0.mk (ts_step HRR.out (fun k hk => hch.block k (Kd.R_lt HRR.out k hk) (fun q => by have q' : k = g := q; have h1 := HLT6.out k hk; have h2 := HGE.out; omega)))
              have HC8 : Aside0 (Cut ((rows.drop (i + 1)).map (fun r => r.1)) (tookR u l e).2.1 (tookR u l e).2.2) := ⟨cut_step HU.out (by have h1 := HCUT2.out; rw [HDROP.out] at h1; exact h1)⟩
              have HBY8 : Aside0 (IsBytes (tookR u l e).2.1) := ⟨HBY2.out.suf (suf_took u l e)⟩
              have hiL : (i : Int) + 1 ≤ 9223372036854775807 := by have := HRL.out; have := HJT.out; omega
              clear hr8 hv8 hch HR HRF2 HRR HBI HCUT2
              go_wp2
              go_roundg k2
              case measure => omega
              case rel => exact ⟨i + 1, by first | rfl | simp, ⟨by have := HI.out; omega⟩, ⟨_, _, _, HR8.out, HRF8.out, HBY8.out, HC8.out⟩, HRR8, HB8⟩
    | succ k =>
      have hj : j < ts.length := by have := HJ.out; omega
      obtain ⟨t, a, A', c', ht, ha, h8, hlc, hC, q0, q1, q2, q3, q4, q5, q6, q7, q8, q9, q10, q11, q12, q13, q14, q15⟩ := th_at H1.out hj
      subst ha
      have HTG : Aside0 (Good t ∧ t.t.length ≤ 1048576) := ⟨HT.out t (List.mem_of_getElem? ht)⟩
      have HC0 := Aside0.mk hC
      have HQ4 := Aside0.mk q4
      clear h8 hlc hC ht
      replace q0 := pw_cell_below HBB.out q0
      replace q1 := pw_cell_below HBB.out q1
      replace q2 := pw_cell_below HBB.out q2
      replace q3 := pw_cell_below HBB.out q3
      replace q4 := pw_cell_below HBB.out q4
      replace q5 := pw_cell_below HBB.out q5
      replace q6 := pw_cell_below HBB.out q6
      replace q7 := pw_cell_below HBB.out q7
      replace q8 := pw_cell_below HBB.out q8
      replace q9 := pw_cell_below HBB.out q9
      replace q10 := pw_cell_below HBB.out q10
      replace q11 := pw_cell_below HBB.out q11
      replace q12 := pw_cell_below HBB.out q12
      replace q13 := pw_cell_below HBB.out q13
      replace q14 := pw_cell_below HBB.out q14
      replace q15 := pw_cell_below HBB.out q15
      have hjl : (j : Int) < ts.length := by omega
      go_wp2_with fail
      have hbn := below_new wr (.cells #[.int .i64 t.1, .int .i64 t.kind, .int .u64 t.n, .int .i64 t.i, .int .i64 t.w, .int .u8 (rd t.id 0), .int .u8 (rd t.id 1), .int .u8 (rd t.id 2), .int .u8 (rd t.id 3), .int .u8 (rd t.id 4), .int .u8 (rd t.id 5), .int .u8 (rd t.id 6), .int .u8 (rd t.id 7), .int .i16 t.p.1, .int .i16 t.p.2, .slice A' t.t.length c'] 46)
      have HKT := Aside0.mk (blk_new wr (.cells #[.int .i64 t.1, .int .i64 t.kind, .int .u64 t.n, .int .i64 t.i, .int .i64 t.w, .int .u8 (rd t.id 0), .int .u8 (rd t.id 1), .int .u8 (rd t.id 2), .int .u8 (rd t.id 3), .int .u8 (rd t.id 4), .int .u8 (rd t.id 5), .int .u8 (rd t.id 6), .int .u8 (rd t.id 7), .int .i16 t.p.1, .int .i16 t.p.2, .slice A' t.t.length c'] 46))
      have HW5 := Aside0.mk (HW.out.below hbn)
      have HB5 := Aside0.mk (below_step HBB.out hbn)
      have HSZ5 := Aside0.mk (Nat.le_trans HSZ.out hbn.size)
      have HR65 := Aside0.mk (Kd.R_below HR6.out hbn)
      have HTLT0 : Aside0 (∀ k, (Value.slice A6 rows.length c6).ownBlock = some k → k < wr.heap.size) := ⟨fun k hk => Kd.R_lt HR6.out k hk⟩
      have HWR0 : Aside0 (w.heap.size ≤ wr.heap.size) := ⟨HBB.out.size⟩
      have HLTB : Aside0 (∀ k, fp bw vw k → k < wr.heap.size) := ⟨fun k hk => (HW.out.lt k hk).2⟩
      have HJT : Aside0 (j < 1048576) := ⟨by have := HLT.out; omega⟩
      clear hbn HW HBB HR6 q0 q1 q2 q3 q4 q5 q6 q7 q8 q9 q10 q11 q12 q13 q14 q15
      have HC5 : Aside0 (Kd.C (Kd.int .u8) (wr.alloc (.cells #[.int .i64 t.1, .int .i64 t.kind, .int .u64 t.n, .int .i64 t.i, .int .i64 t.w, .int .u8 (rd t.id 0), .int .u8 (rd t.id 1), .int .u8 (rd t.id 2), .int .u8 (rd t.id 3), .int .u8 (rd t.id 4), .int .u8 (rd t.id 5), .int .u8 (rd t.id 6), .int .u8 (rd t.id 7), .int .i16 t.p.1, .int .i16 t.p.2, .slice A' t.t.length c'] 46)) A' t.t.length t.t) := ⟨Kd.C_below HC0.out HB5.out⟩
      refine (put_all bw bw vw wl _ HW5.out HSZ5.out t HTG.out.1 A' c' HC5.out (by have := bnd_top HWL.out (Nat.le_of_lt HJT.out); have := HTG.out.2; omega)).mono ?_
      rintro e6 w6 ⟨rfl, hwr⟩
      obtain ⟨vw6, hw6, hmv, hch⟩ := hwr
      have HW6 := Aside0.mk hw6
      have HB6 : Aside0 (Below w.heap.size w w6) := ⟨HB5.out.trans (hch.below HB5.out.size (fun k hk => by have h1 := (HW5.out.lt k hk).1; have := HBW.out; omega))⟩
      have HSZ6 := Aside0.mk (Nat.le_trans HSZ5.out hch.size)
      have HKT6 := Aside0.mk (hch.heap HKT.out (fun hk => by have := HLTB.out _ hk; omega))
      have HR66 := Aside0.mk (ts_step HR65.out (fun k hk => hch.block k (Kd.R_lt HR65.out k hk) (HFP.out k hk)))
      have HFP6 : Aside0 (∀ k, (Value.slice A6 rows.length c6).ownBlock = some k → ¬ fp bw vw6 k) := ⟨fun k hk q => by
        rcases q with q | q
        · exact HFP.out k hk (Or.inl q)
        · rcases hmv k q.symm with h | h
          · exact HFP.out k hk (Or.inr h.symm)
          · have := Kd.R_lt HR65.out k hk; omega⟩
      have HFT6 : Aside0 (¬ fp bw vw6 wr.heap.size) := ⟨fun q => by
        rcases q with q | q
        · have := HLTB.out bw (Or.inl rfl); omega
        · rcases hmv _ q.symm with h | h
          · have := HLTB.out _ (Or.inr h.symm); omega
          · rw [World.size_alloc] at h; omega⟩
      have HTLT : Aside0 (∀ k, (Value.slice A6 rows.length c6).ownBlock = some k → k < wr.heap.size) := HTLT0
      have HWR : Aside0 (w.heap.size ≤ wr.heap.size) := HWR0
      have HSZT : Aside0 (wr.heap.size < w6.heap.size) := ⟨blk_lt HKT6.out⟩
      have hjL : (j : Int) + 1 ≤ 9223372036854775807 := by have := HLT.out; omega
      clear hw6 hmv hch HKT HW5 HB5 HSZ5 HR65 HC5 HSZ
      by_cases hz : (putB t).2 = 0
      · have HPK := Aside0.mk (taken_of HTG.out.1 HTG.out.2 hz)
        have HPL := Aside0.mk (put_le t HTG.out.1 HTG.out.2)
        rw [hz]
        have tc0 : w6.cell? ⟨wr.heap.size, 0, none⟩ = some (.int .i64 t.1) := (blk_cell HKT6.out 0).trans rfl
        have tc1 : w6.cell? ⟨wr.heap.size, 1, none⟩ = some (.int .i64 t.kind) := (blk_cell HKT6.out 1).trans rfl
        have tc2 : w6.cell? ⟨wr.heap.size, 2, none⟩ = some (.int .u64 t.n) := (blk_cell HKT6.out 2).trans rfl
        have tc3 : w6.cell? ⟨wr.heap.size, 3, none⟩ = some (.int .i64 t.i) := (blk_cell HKT6.out 3).trans rfl
        have tc4 : w6.cell? ⟨wr.heap.size, 4, none⟩ = some (.int .i64 t.w) := (blk_cell HKT6.out 4).trans rfl
        have tc5 : w6.cell? ⟨wr.heap.size, 5, none⟩ = some (.int .u8 (rd t.id 0)) := (blk_cell HKT6.out 5).trans rfl
        have tc6 : w6.cell? ⟨wr.heap.size, 6, none⟩ = some (.int .u8 (rd t.id 1)) := (blk_cell HKT6.out 6).trans rfl
        have tc7 : w6.cell? ⟨wr.heap.size, 7, none⟩ = some (.int .u8 (rd t.id 2)) := (blk_cell HKT6.out 7).trans rfl
        have tc8 : w6.cell? ⟨wr.heap.size, 8, none⟩ = some (.int .u8 (rd t.id 3)) := (blk_cell HKT6.out 8).trans rfl
        have tc9 : w6.cell? ⟨wr.heap.size, 9, none⟩ = some (.int .u8 (rd t.id 4)) := (blk_cell HKT6.out 9).trans rfl
        have tc10 : w6.cell? ⟨wr.heap.size, 10, none⟩ = some (.int .u8 (rd t.id 5)) := (blk_cell HKT6.out 10).trans rfl
        have tc11 : w6.cell? ⟨wr.heap.size, 11, none⟩ = some (.int .u8 (rd t.id 6)) := (blk_cell HKT6.out 11).trans rfl
        have tc12 : w6.cell? ⟨wr.heap.size, 12, none⟩ = some (.int .u8 (rd t.id 7)) := (blk_cell HKT6.out 12).trans rfl
        have tc13 : w6.cell? ⟨wr.heap.size, 13, none⟩ = some (.int .i16 t.p.1) := (blk_cell HKT6.out 13).trans rfl
        have tc14 : w6.cell? ⟨wr.heap.size, 14, none⟩ = some (.int .i16 t.p.2) := (blk_cell HKT6.out 14).trans rfl
        have tc15 : w6.cell? ⟨wr.heap.size, 15, none⟩ = some (.slice A' t.t.length c') := (blk_cell HKT6.out 15).trans rfl
        have tf4 := blk_frozen HKT6.out 4
        clear hz
        go_upto_region 11 with (fail)
        obtain ⟨mw, hmw⟩ : ∃ m : Int, m = (if t.w < (t.t.length : Int) then (t.t.length : Int) else t.w) := ⟨_, rfl⟩
        rw [← hmw]
        have HMW := Aside0.mk hmw
        clear hmw
        have HKT7 := Aside0.mk (blk_put HKT6.out 4 (.int .i64 mw) rfl)
        have hch : Chg (· = wr.heap.size) w6 (w6.setCell ⟨wr.heap.size, 4, none⟩ (.int .i64 mw)) := Chg.setCell (F := (· = wr.heap.size)) (Chg.refl _ _) (p := ⟨wr.heap.size, 4, none⟩) (Or.inl rfl) _
        have HW7 := Aside0.mk (HW6.out.keep hch (fun k hk q => by have q' : k = wr.heap.size := q; subst q'; exact HFT6.out hk))
        have HNT : Aside0 (∀ k, (Value.slice A6 rows.length c6).ownBlock = some k → k ≠ wr.heap.size) := ⟨fun k hk => by have := HTLT.out k hk; omega⟩
        have HR67 := Aside0.mk (ts_step HR66.out (fun k hk => hch.block k (Kd.R_lt HR66.out k hk) (fun q => HNT.out k hk q)))
        have HB7 : Aside0 (Below w.heap.size w _) := ⟨HB6.out.trans (hch.below HB6.out.size (fun k hk => by have q : k = wr.heap.size := hk; have := HWR.out; omega))⟩
        have HSZ7 := Aside0.mk (Nat.le_trans HSZ6.out hch.size)
        clear hch HKT6 HW6 HR66 HB6 HSZ6 tf4 tc0 tc1 tc2 tc3 tc4 tc5 tc6 tc7 tc8 tc9 tc10 tc11 tc12 tc13 tc14 tc15
        generalize w6.setCell ⟨wr.heap.size, 4, none⟩ (.int .i64 mw) = w7 at HKT7 HW7 HR67 HB7 HSZ7 ⊢
        have tc0 : w7.cell? ⟨wr.heap.size, 0, none⟩ = some (.int .i64 t.1) := (blk_cell HKT7.out 0).trans rfl
        have tc1 : w7.cell? ⟨wr.heap.size, 1, none⟩ = some (.int .i64 t.kind) := (blk_cell HKT7.out 1).trans rfl
        have tc2 : w7.cell? ⟨wr.heap.size, 2, none⟩ = some (.int .u64 t.n) := (blk_cell HKT7.out 2).trans rfl
        have tc3 : w7.cell? ⟨wr.heap.size, 3, none⟩ = some (.int .i64 t.i) := (blk_cell HKT7.out 3).trans rfl
        have tc4 : w7.cell? ⟨wr.heap.size, 4, none⟩ = some (.int .i64 mw) := (blk_cell HKT7.out 4).trans rfl
        have tc5 : w7.cell? ⟨wr.heap.size, 5, none⟩ = some (.int .u8 (rd t.id 0)) := (blk_cell HKT7.out 5).trans rfl
        have tc6 : w7.cell? ⟨wr.heap.size, 6, none⟩ = some (.int .u8 (rd t.id 1)) := (blk_cell HKT7.out 6).trans rfl
        have tc7 : w7.cell? ⟨wr.heap.size, 7, none⟩ = some (.int .u8 (rd t.id 2)) := (blk_cell HKT7.out 7).trans rfl
        have tc8 : w7.cell? ⟨wr.heap.size, 8, none⟩ = some (.int .u8 (rd t.id 3)) := (blk_cell HKT7.out 8).trans rfl
        have tc9 : w7.cell? ⟨wr.heap.size, 9, none⟩ = some (.int .u8 (rd t.id 4)) := (blk_cell HKT7.out 9).trans rfl
        have tc10 : w7.cell? ⟨wr.heap.size, 10, none⟩ = some (.int .u8 (rd t.id 5)) := (blk_cell HKT7.out 10).trans rfl
        have tc11 : w7.cell? ⟨wr.heap.size, 11, none⟩ = some (.int .u8 (rd t.id 6)) := (blk_cell HKT7.out 11).trans rfl
        have tc12 : w7.cell? ⟨wr.heap.size, 12, none⟩ = some (.int .u8 (rd t.id 7)) := (blk_cell HKT7.out 12).trans rfl
        have tc13 : w7.cell? ⟨wr.heap.size, 13, none⟩ = some (.int .i16 t.p.1) := (blk_cell HKT7.out 13).trans rfl
        have tc14 : w7.cell? ⟨wr.heap.size, 14, none⟩ = some (.int .i16 t.p.2) := (blk_cell HKT7.out 14).trans rfl
        have tc15 : w7.cell? ⟨wr.heap.size, 15, none⟩ = some (.slice A' t.t.length c') := (blk_cell HKT7.out 15).trans rfl
        have tf4 := blk_frozen HKT7.out 4
        go_wp2_with fail
        refine (round7_calls t.kind _).mono ?_
        rintro e7 w8 ⟨rfl, rfl⟩
        have q4 := pw_cell_below HB7.out HQ4.out
        go_upto_if 39 with (fail)
        go_cut [40, 41, 42, 43, 44, 45] (fun v40 v41 v42 v43 v44 v45 wc => Aside0 (wc.heap[wr.heap.size]? = some (.cells #[.int .i64 t.1, .int .i64 t.kind, .int .u64 t.n, .int .i64 t.i, .int .i64 (readW t), .int .u8 (rd t.id 0), .int .u8 (rd t.id 1), .int .u8 (rd t.id 2), .int .u8 (rd t.id 3), .int .u8 (rd t.id 4), .int .u8 (rd t.id 5), .int .u8 (rd t.id 6), .int .u8 (rd t.id 7), .int .i16 t.p.1, .int .i16 t.p.2, .slice A' t.t.length c'] 46 (0, 0))) ∧ Aside0 (WAt wc bw bw vw6 (wl ++ (putB t).1)) ∧ Aside0 (Kd.R kTs 46 wc w.heap.size (fun _ => True) (.slice A6 rows.length c6) (rows.map (fun r => tsOf r.1 r.2.1 r.2.2))) ∧ Aside0 (Below w.heap.size w wc) ∧ Aside0 (bw ≤ wc.heap.size))
        case first =>
          by_cases hk1 : kindOf t.kind = 1
          · have c2 : (kindOf t.kind == 1) = true := beq_iff_eq.mpr hk1
            have hrw : readW t = t.w := by unfold readW; rw [if_pos hk1]
            clear hk1
            (first | rw [c2] | skip)
            clear c2
            go_wp2
            go_meet
            case rel =>
              have hch : Chg (· = wr.heap.size) w8 (w8.setCell ⟨wr.heap.size, 4, none⟩ (.int .i64 t.w)) := Chg.setCell (F := (· = wr.heap.size)) (Chg.refl _ _) (p := ⟨wr.heap.size, 4, none⟩) (Or.inl rfl) _
              rw [hrw]
              exact ⟨⟨blk_put HKT7.out 4 (.int .i64 t.w) rfl⟩, ⟨HW7.out.keep hch (fun k hk q => by have q' : k = wr.heap.size := q; subst q'; exact HFT6.out hk)⟩, ⟨ts_step HR67.out (fun k hk => hch.block k (Kd.R_lt HR67.out k hk) (fun q => HNT.out k hk q))⟩, ⟨HB7.out.trans (hch.below HB7.out.size (fun k hk => by have q : k = wr.heap.size := hk; have := HWR.out; omega))⟩, ⟨Nat.le_trans HSZ7.out hch.size⟩⟩
          · have c2 : (kindOf t.kind == 1) = false := beq_eq_false_iff_ne.mpr hk1
            have hrw : readW t = mw := by rw [HMW.out]; unfold readW; rw [if_neg hk1]
            clear hk1
            (first | rw [c2] | skip)
            clear c2
            go_wp2
            go_meet
            case rel =>
              rw [hrw]
              exact ⟨HKT7, HW7, HR67, HB7, HSZ7⟩
        case rest =>
          clear HKT7 HW7 HR67 HB7 HSZ7 tf4 q4 tc0 tc1 tc2 tc3 tc4 tc5 tc6 tc7 tc8 tc9 tc10 tc11 tc12 tc13 tc14 tc15
          obtain ⟨HKT9, HW9, HR69, HB9, HSZ9⟩ := hcut
          have tc0 : wc.cell? ⟨wr.heap.size, 0, none⟩ = some (.int .i64 t.1) := (blk_cell HKT9.out 0).trans rfl
          have tc1 : wc.cell? ⟨wr.heap.size, 1, none⟩ = some (.int .i64 t.kind) := (blk_cell HKT9.out 1).trans rfl
          have tc2 : wc.cell? ⟨wr.heap.size, 2, none⟩ = some (.int .u64 t.n) := (blk_cell HKT9.out 2).trans rfl
          have tc3 : wc.cell? ⟨wr.heap.size, 3, none⟩ = some (.int .i64 t.i) := (blk_cell HKT9.out 3).trans rfl
          have tc4 : wc.cell? ⟨wr.heap.size, 4, none⟩ = some (.int .i64 (readW t)) := (blk_cell HKT9.out 4).trans rfl
          have tc5 : wc.cell? ⟨wr.heap.size, 5, none⟩ = some (.int .u8 (rd t.id 0)) := (blk_cell HKT9.out 5).trans rfl
          have tc6 : wc.cell? ⟨wr.heap.size, 6, none⟩ = some (.int .u8 (rd t.id 1)) := (blk_cell HKT9.out 6).trans rfl
          have tc7 : wc.cell? ⟨wr.heap.size, 7, none⟩ = some (.int .u8 (rd t.id 2)) := (blk_cell HKT9.out 7).trans rfl
          have tc8 : wc.cell? ⟨wr.heap.size, 8, none⟩ = some (.int .u8 (rd t.id 3)) := (blk_cell HKT9.out 8).trans rfl
          have tc9 : wc.cell? ⟨wr.heap.size, 9, none⟩ = some (.int .u8 (rd t.id 4)) := (blk_cell HKT9.out 9).trans rfl
          have tc10 : wc.cell? ⟨wr.heap.size, 10, none⟩ = some (.int .u8 (rd t.id 5)) := (blk_cell HKT9.out 10).trans rfl
          have tc11 : wc.cell? ⟨wr.heap.size, 11, none⟩ = some (.int .u8 (rd t.id 6)) := (blk_cell HKT9.out 11).trans rfl
          have tc12 : wc.cell? ⟨wr.heap.size, 12, none⟩ = some (.int .u8 (rd t.id 7)) := (blk_cell HKT9.out 12).trans rfl
          have tc13 : wc.cell? ⟨wr.heap.size, 13, none⟩ = some (.int .i16 t.p.1) := (blk_cell HKT9.out 13).trans rfl
          have tc14 : wc.cell? ⟨wr.heap.size, 14, none⟩ = some (.int .i16 t.p.2) := (blk_cell HKT9.out 14).trans rfl
          have tc15 : wc.cell? ⟨wr.heap.size, 15, none⟩ = some (.slice A' t.t.length c') := (blk_cell HKT9.out 15).trans rfl
          go_wp2_with (first | ((with_reducible refine gate_dst (N := 48) rfl ?_); refine Kd.R_lit kTs _ 46 ?hg (N := 48) ?hd (xs := [tsOf (setW t (readW t)) A' c']) (inner := [.int .i64 t.1, .int .i64 t.kind, .int .u64 t.n, .int .i64 t.i, .int .i64 (readW t), .int .u8 (rd t.id 0), .int .u8 (rd t.id 1), .int .u8 (rd t.id 2), .int .u8 (rd t.id 3), .int .u8 (rd t.id 4), .int .u8 (rd t.id 5), .int .u8 (rd t.id 6), .int .u8 (rd t.id 7), .int .i16 t.p.1, .int .i16 t.p.2, .slice A' t.t.length c']) (ok := fun _ => True) (okp := fun _ => True) ?hr ?hp (fun _ hk => hk) trivial (Below.refl _ _) (Nat.le_refl _) (by simp) ?_; (case hd => rfl); (case hg => rfl); (case hr => first | (go_simp; done) | (go_simp; rfl)); (case hp => exact (reps_single (ts_M (setW t (readW t)) A' c' HTG.out.1.len) rfl)); intro v10 w10 ho10 hb hg_ hnew_; have HL10 := Aside0.mk ho10; have HW10 := Aside0.mk (HW9.out.below hb); have HR610 := Aside0.mk (Kd.R_below HR69.out hb); have HB10 := Aside0.mk (below_step HB9.out hb); have HSZ10 := Aside0.mk (Nat.le_trans HSZ9.out hb.size); clear ho10 hb hg_ hnew_ HW9 HR69 HB9 HSZ9; obtain ⟨A10, c10, e10⟩ := Kd.R_slice HL10.out; subst e10) | ((with_reducible refine gate_builtin (b := .append) (xs := #[.tmp 46, .tmp 48]) rfl ?_); at_builtin; refine Kd.R_append_rows kTs (w0 := w) w.heap.size rfl (.tmp 46) (.tmp 48) 32 46 (.agg #[.int .i64 0, .int .i64 0, .int .u64 0, .int .i64 0, .int .i64 0, .int .u8 0, .int .u8 0, .int .u8 0, .int .u8 0, .int .u8 0, .int .u8 0, .int .u8 0, .int .u8 0, .int .i16 0, .int .i16 0, .slice none 0 0]) 80 rfl Try.underlying32 info46 rfl (by decide) (by omega) (.slice A6 rows.length c6) (rows.map (fun r => tsOf r.1 r.2.1 r.2.2)) [tsOf (setW t (readW t)) A' c'] _ _ _ (fun _ => True) (fun _ => False) rfl rfl ?aO ?aR (fun _ _ h => h) (fun _ h => h.elim) ?aF ?aB ?aS ?aL ?_; (case aR => exact (Kd.R_reads' HL10.out).2.2); (case aB => exact HB10.out); (case aF => exact (fun _ _ => trivial)); (case aO => exact HR610.out); (case aS => exact HB10.out.size); (case aL => have := HRL.out; have := HJT.out; simp; omega); intro v11 w11 ho hb2 hg2 hat; have HR611 := Aside0.mk ho; have HB11 := Aside0.mk hb2; have HW11 := Aside0.mk (HW10.out.keep (Chg.of_grown hg2) (fun k hk q => HFP6.out k q.symm hk)); have HSZ11 := Aside0.mk (Nat.le_trans HSZ10.out hg2.size); have HFP11 : Aside0 (∀ k, v11.ownBlock = some k → ¬ fp bw vw6 k) := (⟨fun k hk q => by (exact block_apart hat HFP6.out (fun k q => (HW10.out.lt k q).2) k hk q)⟩); clear ho hb2 hg2 hat HW10 HR610 HB10 HSZ10 HL10))
          go_roundg k
          case measure => omega
          case rel => exact ⟨j + 1, rows ++ [(setW t (readW t), A', c')], by first | rfl | simp, ⟨by have := HJ.out; omega⟩, ⟨_, _, HW11.out, by rw [List.map_append, List.map_cons, List.map_nil, forms_snoc, ← HWF.out, HPK.out.2], by rw [List.length_append]; exact bnd_step HWL.out HPL.out, by rw [List.length_append]; have := HRL.out; simp; omega, HFP11.out⟩, ⟨fun r hr => by exact taken_more HTK.out HPK.out.1 r hr⟩, ⟨by rw [List.map_append]; exact HR611.out⟩, HB11, HSZ11⟩
      · have c1 : ((putB t).2 == 0) = false := beq_eq_false_iff_ne.mpr hz
        have HNP : Aside0 ((putB t).1 = []) := ⟨by
          unfold putB at hz ⊢
          split at hz
          · exact absurd rfl hz
          · split at hz
            · rename_i h1 h2
              rw [if_neg h1, if_pos h2]
              split at hz
              · rename_i h3; rw [if_pos h3]
              · exact absurd rfl hz
            · split at hz
              · exact absurd rfl hz
              · split at hz
                · exact absurd rfl hz
                · split at hz
                  · exact absurd rfl hz
                  · split at hz
                    · exact absurd rfl hz
                    · exact absurd rfl hz⟩
        rw [HNP.out, List.append_nil] at HW6
        clear hz HNP
        go_wp2
        go_roundg k
        case measure => omega
        case rel => exact ⟨j + 1, rows, by first | rfl | simp, ⟨by have := HJ.out; omega⟩, ⟨_, _, HW6.out, HWF.out, bnd_next HWL.out, by have := HRL.out; omega, HFP6.out⟩, HTK, HR66, HB6, HSZ6⟩
end Go.Proofs.Ytjijmikpoenbcaa.Codec
