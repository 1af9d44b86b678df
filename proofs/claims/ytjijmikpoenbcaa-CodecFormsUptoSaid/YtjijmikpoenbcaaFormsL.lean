/- The law CodecForms, walked. -/
import Derived.Test.YtjijmikpoenbcaaCanon
namespace Go.Proofs.Ytjijmikpoenbcaa.Codec
open Go.RowKit Go.Proofs.YtjijmikpoenbcaaW.PrintWords Go.Proofs.YtjijmikpoenbcaaW.PrintLast Go.Proofs.YtjijmikpoenbcaaW.PrintMore Go.Proofs.Ytjijmikpoenbcaa.Open Go.Proofs.Ytjijmikpoenbcaa.Q
set_option linter.unusedVariables false
theorem took_text_len (t : Th) (l : List Int) (e : Int) : (tookR t l e).1.t.length ≤ l.length := by
  rcases kind_cases t.kind with h | h | h | h | h | h | h
  · simp [tookR, h, Th.t]
  · simp [tookR, h, Th.t]
  · simp [tookR, h, Th.t]
  · simp [tookR, h, Th.t]
  · simp [tookR, h, Th.t]
  · simp [tookR, h, Th.t]
  · have e1 : (tookR t l e).1.t = (textR t.w l e).1 := by simp [tookR, h]
    rw [e1]
    exact textR_len
set_option maxHeartbeats 8000000 in
set_option maxRecDepth 100000 in
theorem forms_walk (A0 : Option Addr) (c0 : Nat) (l0 : List Int) (A1 : Option Addr) (c1 : Nat) (ts : List Th) (w : World) (h0 : Kd.C (Kd.int .u8) w A0 l0.length l0) (hc0 : l0.length ≤ c0) (h1 : Kd.C kTh w A1 ts.length ts) (hby : IsBytes l0) (hl0 : l0.length ≤ 1048576) (hl1 : ts.length ≤ 1048576) (ht : ∀ t ∈ ts, Good t) :
    Calls Try.prog 11 #[.slice A0 l0.length c0, .slice A1 ts.length c1] w fun e w' => e = .returned (.bool true) ∧ Below w.heap.size w w' := by
  have H0 := Aside0.mk h0
  have HC0 := Aside0.mk hc0
  have H1 := Aside0.mk h1
  have HBY := Aside0.mk hby
  have HL0 := Aside0.mk hl0
  have HLT := Aside0.mk hl1
  have HT := Aside0.mk ht
  clear h0 hc0 h1 hby hl0 hl1 ht
  go_enter Try.func11, Try.ntmps11
  go_wp2_with fail
  refine (cabstandlaw02_lives.calls true w rfl).mono ?_
  rintro e w1 ⟨rfl, hb⟩
  have HB := Aside0.mk hb
  clear hb
  go_wp2_with (first | ((with_reducible refine gate_dst (N := 11) rfl ?_); refine Kd.R_lit (Kd.int .u8) _ 5 ?hg (N := 11) ?hd (xs := ([] : List Int)) (inner := []) (ok := fun _ => True) (okp := fun _ => True) ?hr ?hp (fun _ hk => hk) trivial (Below.refl _ _) (Nat.le_refl _) (by simp) ?_; (case hd => rfl); (case hg => rfl); (case hr => first | (go_simp; done) | (go_simp; rfl)); (case hp => exact (Reps.none _ _)); intro v138 w22 ho23 hb hg_ hnew_; clear hg_ hnew_; have n0_ := Aside0.mk (Kd.R_lower ho23 (below_size HB.out)); have n1_ := Aside0.mk (below_step HB.out hb); clear HB; have HO139 := n0_; have HB := n1_; clear n0_ n1_; clear hb ho23) | ((with_reducible refine gate_builtin (b := .append) (xs := #[.tmp 11, .tmp 12]) rfl ?_); at_builtin; refine Kd.R_append_rows (Kd.int .u8) (w0 := w) w.heap.size rfl (.tmp 11) (.tmp 12) 22 5 (.int .u8 0) 1 rfl Try.underlying22 info5 rfl (by decide) (by omega) v138 [] l0 _ _ _ (fun _ => True) (fun _ => False) rfl rfl ?aO ?aR (fun _ _ h => h) (fun _ h => h.elim) ?aF ?aB ?aS ?aL ?_; (case aR => repeat (first | exact (Kd.C_below H0.out HB.out) | (with_reducible refine Kd.C_alloc ?_ _) | (with_reducible refine Kd.C_drewN ?_ _) | (with_reducible refine Kd.C_drew ?_))); (case aB => exact (by repeat (first | (with_reducible first | exact HB.out | apply below_alloc | apply pw_below_drewN | apply below_drew1) | exact HB.out))); (case aF => exact (fun _ _ => trivial)); (case aO => exact (by (with_reducible repeat (first | apply Kd.R_alloc | apply Kd.R_drewN | apply Kd.R_drew)); exact HO139.out)); (case aS => exact (below_size (by repeat (first | (with_reducible first | exact HB.out | apply below_alloc | apply pw_below_drewN | apply below_drew1) | exact HB.out)))); (case aL => have := HL0.out; simp; omega); intro v141 w24 ho hb hg hat; rw [List.nil_append] at ho; have n0_ := Aside0.mk (hb); have n1_ := Aside0.mk (own_int ho); clear HB; clear HO139; have HB := n0_; have HO := n1_; clear n0_ n1_; clear ho hb hg hat; obtain ⟨A', c', rfl, hlc', hC'⟩ := own_C HO.out; have HC' := Aside0.mk hC'; clear hC' HO hlc'))
  have HL1 : Aside0 (l0.length ≤ 140737488355328) := ⟨by have := HL0.out; omega⟩
  refine (NewReader_calls A' c' l0 _ HC'.out HL1.out).mono ?_
  rintro e w2 ⟨g, rfl, hr, hb⟩
  have HR := Aside0.mk (hr.lower HB.out.size)
  have HB2 := Aside0.mk (below_then HB.out HB.out.size hb)
  clear hb hr HC' HB
  go_wp2_with fail
  refine (NewWriter_calls w2).mono ?_
  rintro e w3 ⟨rfl, hw, hb⟩
  have HRL : Aside0 (∀ k, rfp g (.slice (some ⟨w24.heap.size, 0, none⟩) l0.length l0.length) k → k < w2.heap.size) := ⟨fun k hk => (HR.out.lt k hk).2⟩
  have HR3 := Aside0.mk (HR.out.below hb)
  have HW3 := Aside0.mk hw
  have HB3 := Aside0.mk (below_then HB2.out HB2.out.size hb)
  have HBW : Aside0 (w.heap.size ≤ w2.heap.size) := ⟨HB2.out.size⟩
  clear hb hw HR HB2
  generalize w2.heap.size = bw at HRL HW3 HBW ⊢
  go_wp2
  go_loopg [7, 8] ts.length (fun kq v7 v8 wr => ∃ (j : Nat), v7 = .int .i64 j ∧ Aside0 (j + kq = ts.length) ∧ Aside0 (∃ v l e vw wl, RAt wr w.heap.size g v l e ∧ (∀ k, rfp g v k → k < bw) ∧ WAt wr bw bw vw wl ∧ IsBytes l ∧ (e ≠ 0 → l = []) ∧ (e = 0 → l0 = wl ++ l) ∧ wl.length ≤ l0.length + 8 * j ∧ l.length ≤ l0.length) ∧ Aside0 (Below w.heap.size w wr) ∧ Aside0 (bw ≤ wr.heap.size))
  case atStart => exact ⟨0, rfl, ⟨by omega⟩, ⟨_, _, _, _, _, HR3.out, HRL.out, HW3.out, HBY.out, fun h => absurd rfl h, fun _ => rfl, Nat.zero_le _, Nat.le_refl _⟩, HB3, ⟨by have := (HW3.out.lt bw (Or.inl rfl)).2; omega⟩⟩
  case round =>
    obtain ⟨j, rfl, HJ, HS, HBB, HSZ⟩ := hrel
    obtain ⟨v, l, e, vw, wl, hr, hrl, hw, hby, he0, hcat, hwl, hll⟩ := HS.out
    have HWL := Aside0.mk hwl
    have HLL := Aside0.mk hll
    have HCAT := Aside0.mk hcat
    have HE0 := Aside0.mk he0
    have HBYL := Aside0.mk hby
    have HRL2 := Aside0.mk hrl
    have HW := Aside0.mk hw
    have HR := Aside0.mk hr
    clear hr hrl hw hby he0 hcat hwl hll HS
    cases gk with
    | zero =>
      have hjl : ¬ (j : Int) < ts.length := by have := HJ.out; omega
      go_wp2_with fail
      refine (rEnd_calls _ g _ _ _ _ HR.out).mono ?_
      rintro e4 w4 ⟨rfl, rfl⟩
      by_cases hz : endR l e = 0
      · have h2 : e = 0 ∧ l = [] := by
          unfold endR at hz
          split at hz
          · exact absurd hz (by decide)
          · rename_i q
            refine ⟨hz, ?_⟩
            cases l with
            | nil => rfl
            | cons b t => exact absurd ⟨hz, by simp⟩ q
        have HEQ : Aside0 (wl = l0) := ⟨by have := HCAT.out h2.1; rw [h2.2, List.append_nil] at this; exact this.symm⟩
        rw [hz]
        clear hz h2
        go_wp2_with fail
        refine (wBytes_calls bw bw vw wl _ HW.out (by have := HWL.out; have := HJ.out; have := HLT.out; have := HL0.out; omega)).mono ?_
        rintro e5 w5 ⟨rfl, hblk, hb⟩
        have HB5 := Aside0.mk (below_then HBB.out HBB.out.size hb)
        have HK5 := Aside0.mk hblk
        clear hb hblk
        go_wp2_with fail
        refine (same_calls _ wl.length wl A0 c0 l0 _ (bytes_at HK5.out (by have := HWL.out; have := HJ.out; have := HLT.out; have := HL0.out; omega)) (Nat.le_refl _) (Kd.C_below H0.out HB5.out) HC0.out).mono ?_
        rintro e6 w6 ⟨rfl, hb⟩
        rw [decide_eq_true HEQ.out]
        have HB6 := Aside0.mk (below_then HB5.out HB5.out.size hb)
        clear hb
        go_wp2
        go_ret
        exact ⟨rfl, HB6.out⟩
      · have c1 : (endR l e != 0) = true := bne_iff_ne.mpr hz
        clear hz
        go_wp2
        go_ret
        exact ⟨rfl, HBB.out⟩
    | succ k =>
      have hj : j < ts.length := by have := HJ.out; omega
      obtain ⟨t, a, A', c', ht, rfl, h8, hlc, hC, q0, q1, q2, q3, q4, q5, q6, q7, q8, q9, q10, q11, q12, q13, q14, q15⟩ := th_at (Kd.C_below H1.out HBB.out) hj
      have HTG : Aside0 (Good t) := ⟨HT.out t (List.mem_of_getElem? ht)⟩
      clear h8 hlc hC ht
      have hjl : (j : Int) < ts.length := by omega
      go_wp2_with fail
      refine (took_all w.heap.size g v l HBYL.out e wr HR.out t HTG.out.gw.2 A' c').mono ?_
      rintro e2 w4 ⟨A4, c4, rfl, hk, hc4, hC4⟩
      clear q0 q1 q2 q3 q4 q5 q6 q7 q8 q9 q10 q11 q12 q13 q14 q15
      have HB4 : Aside0 (Below w.heap.size w w4) := ⟨HBB.out.trans (hk.below HBB.out.size HR.out.ge)⟩
      obtain ⟨v4, hr4, hv4, hch⟩ := hk
      have HW4 := Aside0.mk (HW.out.keep hch (fun k hk q => by have q' : k = g := q; have h1 := (HW.out.lt k hk).1; have h2 := HRL2.out g (Or.inl rfl); omega))
      have HRL4 : Aside0 (∀ k, rfp g v4 k → k < bw) := ⟨fun k hk => by
        rcases hk with hk | hk
        · exact HRL2.out k (Or.inl hk)
        · exact HRL2.out k (Or.inr (hv4 k hk.symm).symm)⟩
      have HSZ4 : Aside0 (bw ≤ w4.heap.size) := ⟨Nat.le_trans HSZ.out hch.size⟩
      have HR4 := Aside0.mk hr4
      have HC4 := Aside0.mk hC4
      have HROUND := Aside0.mk (took_round (t := t) (b := l0) (wl := wl) HBYL.out HTG.out HE0.out HCAT.out)
      have HG4 := Aside0.mk (took_good (e := e) HBYL.out HTG.out)
      have HSUF := Aside0.mk (suf_took t l e)
      have HTL := Aside0.mk (took_text_len t l e)
      have HFL : Aside0 ((tookR t l e).2.2 ≠ 0 → (tookR t l e).2.1 = []) := ⟨fun h => by rw [took_fault h]⟩
      clear hr4 hv4 hch hc4 hC4 HR HW HRL2 HE0 HCAT
      have HSH : Aside0 (∃ x y, tookR t l e = (x, y)) := ⟨_, _, rfl⟩
      obtain ⟨x, ll, e5, hx⟩ : ∃ x ll e5, tookR t l e = (x, ll, e5) := ⟨_, _, _, rfl⟩
      rw [hx] at HR4 HC4 HROUND HG4 HSUF HTL HFL ⊢
      clear hx HSH
      have hd2 : thingOf x A4 c4 = #[.int .i64 x.1, .int .i64 x.kind, .int .u64 x.n, .int .i64 x.i, .int .i64 x.w, .int .u8 (rd x.id 0), .int .u8 (rd x.id 1), .int .u8 (rd x.id 2), .int .u8 (rd x.id 3), .int .u8 (rd x.id 4), .int .u8 (rd x.id 5), .int .u8 (rd x.id 6), .int .u8 (rd x.id 7), .int .i16 x.p.1, .int .i16 x.p.2, .slice A4 x.t.length c4] := rfl
      rw [hd2]
      clear hd2
      go_wp2_with fail
      have hbn := below_new w4 (.cells #[.int .i64 x.1, .int .i64 x.kind, .int .u64 x.n, .int .i64 x.i, .int .i64 x.w, .int .u8 (rd x.id 0), .int .u8 (rd x.id 1), .int .u8 (rd x.id 2), .int .u8 (rd x.id 3), .int .u8 (rd x.id 4), .int .u8 (rd x.id 5), .int .u8 (rd x.id 6), .int .u8 (rd x.id 7), .int .i16 x.p.1, .int .i16 x.p.2, .slice A4 x.t.length c4] 46)
      have HW5 := Aside0.mk (HW4.out.below hbn)
      have HR5 := Aside0.mk (HR4.out.below hbn)
      have HB5 := Aside0.mk (below_step HB4.out hbn)
      have HSZ5 := Aside0.mk (Nat.le_trans HSZ4.out hbn.size)
      clear hbn
      refine (put_all bw bw vw wl _ HW5.out HSZ5.out x HG4.out A4 c4 (Kd.C_alloc HC4.out _) (by have := HWL.out; have := HJ.out; have := HLT.out; have := HL0.out; have := HLL.out; have h9 : x.t.length ≤ l.length := HTL.out; omega)).mono ?_
      rintro e6 w6 ⟨rfl, hwr⟩
      obtain ⟨vw6, hw6, hmv, hch⟩ := hwr
      have HR6 := Aside0.mk (HR5.out.keep hch (fun k hk q => by have h1 := (HW5.out.lt k q).1; have h2 := HRL4.out k hk; omega))
      have HW6 := Aside0.mk hw6
      have HB6 : Aside0 (Below w.heap.size w w6) := ⟨HB5.out.trans (hch.below HB5.out.size (fun k hk => by have h1 := (HW5.out.lt k hk).1; have := HBW.out; omega))⟩
      have HSZ6 := Aside0.mk (Nat.le_trans HSZ5.out hch.size)
      clear hw6 hmv hch
      have hjL : (j : Int) + 1 ≤ 9223372036854775807 := by have := HLT.out; omega
      have HN : Aside0 ((wl ++ (putB x).1).length ≤ l0.length + 8 * (j + 1) ∧ ll.length ≤ l0.length) := ⟨by have h1 := HROUND.out.2; have h2 := HWL.out; have h3 : (wl ++ (putB x).1).length ≤ max l0.length wl.length + 8 := h1; omega, by have h4 : ll <:+ l := HSUF.out; have := h4.length_le; have := HLL.out; omega⟩
      have HP2 : Aside0 (e5 = 0 → l0 = (wl ++ (putB x).1) ++ ll ∧ (putB x).2 = 0) := ⟨HROUND.out.1⟩
      have HBL2 : Aside0 (IsBytes ll) := ⟨HBYL.out.suf HSUF.out⟩
      have HFL2 : Aside0 (e5 ≠ 0 → ll = []) := ⟨HFL.out⟩
      clear HROUND
      generalize hp : (putB x).2 = pe at HP2 ⊢
      by_cases hz : pe = 0
      · rw [hz]
        go_wp2
        go_roundg k
        case measure => omega
        case rel => exact ⟨j + 1, by first | rfl | simp, ⟨by have := HJ.out; omega⟩, ⟨_, _, _, _, _, HR6.out, HRL4.out, HW6.out, HBL2.out, HFL2.out, fun h => (HP2.out h).1, HN.out.1, HN.out.2⟩, HB6, HSZ6⟩
      · have c1 : (pe != 0) = true := bne_iff_ne.mpr hz
        have HE5 : Aside0 (e5 ≠ 0) := ⟨fun h => hz (HP2.out h).2⟩
        clear hz
        go_wp2_with fail
        refine (rEnd_calls _ g _ _ _ _ HR6.out).mono ?_
        rintro e7 w7 ⟨rfl, rfl⟩
        have hee : endR ll e5 = e5 := by unfold endR; rw [if_neg (fun h => HE5.out h.1)]
        rw [hee]
        have c2 : (e5 == 0) = false := beq_eq_false_iff_ne.mpr HE5.out
        clear hee
        go_wp2
        go_roundg k
        case measure => omega
        case rel => exact ⟨j + 1, by first | rfl | simp, ⟨by have := HJ.out; omega⟩, ⟨_, _, _, _, _, HR6.out, HRL4.out, HW6.out, HBL2.out, HFL2.out, fun h => (HP2.out h).1, HN.out.1, HN.out.2⟩, HB6, HSZ6⟩
end Go.Proofs.Ytjijmikpoenbcaa.Codec
