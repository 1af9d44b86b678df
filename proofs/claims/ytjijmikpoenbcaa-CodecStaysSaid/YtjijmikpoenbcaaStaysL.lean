/- The law CodecStays, walked. -/
import Derived.Test.YtjijmikpoenbcaaStays
namespace Go.Proofs.Ytjijmikpoenbcaa.Codec
open Go.RowKit Go.Proofs.YtjijmikpoenbcaaW.PrintWords Go.Proofs.YtjijmikpoenbcaaW.PrintLast Go.Proofs.YtjijmikpoenbcaaW.PrintMore Go.Proofs.Ytjijmikpoenbcaa.Open Go.Proofs.Ytjijmikpoenbcaa.Q
set_option linter.unusedVariables false
set_option maxHeartbeats 8000000 in
set_option maxRecDepth 100000 in
theorem stays_walk (A0 : Option Addr) (c0 : Nat) (l0 : List Int) (A1 : Option Addr) (c1 : Nat) (ts : List Th) (A2 : Option Addr) (c2 : Nat) (us : List Th) (w : World) (h0 : Kd.C (Kd.int .u8) w A0 l0.length l0) (h1 : Kd.C kTh w A1 ts.length ts) (h2 : Kd.C kTh w A2 us.length us) (hby : IsBytes l0) (hl0 : l0.length < 140737488355328) (ht : ∀ t ∈ ts, t.w ≤ 9223372036854775807) (hu : ∀ t ∈ us, t.w ≤ 9223372036854775807) :
    Calls Try.prog 9 #[.slice A0 l0.length c0, .slice A1 ts.length c1, .slice A2 us.length c2] w fun e w' => e = .returned (.bool true) ∧ Below w.heap.size w w' := by
  have H0 := Aside0.mk h0
  have H1 := Aside0.mk h1
  have H2 := Aside0.mk h2
  have HBY := Aside0.mk hby
  have HL0 := Aside0.mk hl0
  have HT := Aside0.mk ht
  have HU := Aside0.mk hu
  clear h0 h1 h2 hby hl0 ht hu
  go_enter Try.func9, Try.ntmps9
  go_wp2_with fail
  refine (cabstandlaw02_lives.calls true w rfl).mono ?_
  rintro e w1 ⟨rfl, hb⟩
  have HB := Aside0.mk hb
  clear hb
  go_wp2_with (first | ((with_reducible refine gate_dst (N := 15) rfl ?_); refine Kd.R_lit (Kd.int .u8) _ 5 ?hg (N := 15) ?hd (xs := ([] : List Int)) (inner := []) (ok := fun _ => True) (okp := fun _ => True) ?hr ?hp (fun _ hk => hk) trivial (Below.refl _ _) (Nat.le_refl _) (by simp) ?_; (case hd => rfl); (case hg => rfl); (case hr => first | (go_simp; done) | (go_simp; rfl)); (case hp => exact (Reps.none _ _)); intro v138 w22 ho23 hb hg_ hnew_; clear hg_ hnew_; have n0_ := Aside0.mk (Kd.R_lower ho23 (below_size HB.out)); have n1_ := Aside0.mk (below_step HB.out hb); clear HB; have HO139 := n0_; have HB := n1_; clear n0_ n1_; clear hb ho23) | ((with_reducible refine gate_builtin (b := .append) (xs := #[.tmp 15, .tmp 16]) rfl ?_); at_builtin; refine Kd.R_append_rows (Kd.int .u8) (w0 := w) w.heap.size rfl (.tmp 15) (.tmp 16) 22 5 (.int .u8 0) 1 rfl Try.underlying22 info5 rfl (by decide) (by omega) v138 [] l0 _ _ _ (fun _ => True) (fun _ => False) rfl rfl ?aO ?aR (fun _ _ h => h) (fun _ h => h.elim) ?aF ?aB ?aS ?aL ?_; (case aR => repeat (first | exact (Kd.C_below H0.out HB.out) | (with_reducible refine Kd.C_alloc ?_ _) | (with_reducible refine Kd.C_drewN ?_ _) | (with_reducible refine Kd.C_drew ?_))); (case aB => exact (by repeat (first | (with_reducible first | exact HB.out | apply below_alloc | apply pw_below_drewN | apply below_drew1) | exact HB.out))); (case aF => exact (fun _ _ => trivial)); (case aO => exact (by (with_reducible repeat (first | apply Kd.R_alloc | apply Kd.R_drewN | apply Kd.R_drew)); exact HO139.out)); (case aS => exact (below_size (by repeat (first | (with_reducible first | exact HB.out | apply below_alloc | apply pw_below_drewN | apply below_drew1) | exact HB.out)))); (case aL => have := HL0.out; simp; omega); intro v141 w24 ho hb hg hat; rw [List.nil_append] at ho; have n0_ := Aside0.mk (hb); have n1_ := Aside0.mk (own_int ho); clear HB; clear HO139; have HB := n0_; have HO := n1_; clear n0_ n1_; clear ho hb hg hat; obtain ⟨A', c', rfl, hlc', hC'⟩ := own_C HO.out; have HC' := Aside0.mk hC'; clear hC' HO hlc'))
  have HL1 : Aside0 (l0.length ≤ 140737488355328) := ⟨Nat.le_of_lt HL0.out⟩
  refine (NewReader_calls A' c' l0 _ HC'.out HL1.out).mono ?_
  rintro e w2 ⟨g, rfl, hr, hb⟩
  have HR := Aside0.mk (hr.lower HB.out.size)
  have HB2 := Aside0.mk (below_then HB.out HB.out.size hb)
  clear hb hr HC' HB
  go_wp2
  go_loopg [8, 9] ts.length (fun kq v8 v9 wr => ∃ (j bf : Nat), v8 = .int .i64 bf ∧ v9 = .int .i64 j ∧ Aside0 (j + kq = ts.length) ∧ Aside0 (∃ v l e, RAt wr w.heap.size g v l e ∧ IsBytes l ∧ l.length ≤ bf ∧ (j = 0 → e = 0)) ∧ Aside0 (Below w.heap.size w wr))
  case atStart => exact ⟨0, l0.length, rfl, rfl, ⟨by omega⟩, ⟨_, _, _, HR.out, HBY.out, Nat.le_refl _, fun _ => rfl⟩, HB2⟩
  case round =>
    obtain ⟨j, bf, rfl, rfl, HJ, HS, HBW⟩ := hrel
    cases gk with
    | zero =>
      obtain ⟨v, l, e, hr, hby, hlb, he0⟩ := HS.out
      have hjl : ¬ (j : Int) < ts.length := by have := HJ.out; omega
      go_wp2_with fail
      refine (rFixed_calls _ g v l hby e 0 wr hr).mono ?_
      rw [show fixedR 0 l e = (0, [], failE 1 e) by simp [fixedR]]
      rintro e2 w3 ⟨rfl, hk⟩
      have HB3 : Aside0 (Below w.heap.size w w3) := ⟨HBW.out.trans (hk.below HBW.out.size hr.ge)⟩
      obtain ⟨e1, he1⟩ : ∃ e1, e1 = failE 1 e := ⟨_, rfl⟩
      have hne : e1 ≠ 0 := by rw [he1]; unfold failE; split <;> omega
      have hcase : (ts.length = 0 ∧ e1 = 1) ∨ ts.length ≠ 0 := by
        by_cases hz : ts.length = 0
        · left
          have hj0 : j = 0 := by have := HJ.out; omega
          exact ⟨hz, by rw [he1, he0 hj0]; rfl⟩
        · exact Or.inr hz
      rw [<- he1] at hk
      obtain ⟨v3, hr3, _, _⟩ := hk
      have HR3 := Aside0.mk hr3
      have HNE := Aside0.mk hne
      clear hr hby hlb he0 hr3 he1 hne
      go_wp2_with fail
      refine (rEnd_calls _ g _ _ _ _ HR3.out).mono ?_
      rw [show endR [] e1 = e1 by simp [endR]]
      rintro e4 w4 ⟨rfl, rfl⟩
      go_upto_region 14 with (fail)
      go_cut [43, 44, 45, 46, 47, 48, 49, 50, 51, 52, 53, 54, 55, 56, 57, 58] (fun v43 v44 v45 v46 v47 v48 v49 v50 v51 v52 v53 v54 v55 v56 v57 v58 wc => v58 = .bool false ∧ Aside0 (∃ v, RAt wc w.heap.size g v [] e1) ∧ Aside0 (Below w.heap.size w wc))
      case first =>
        have c0 : (e1 == 0) = false := beq_eq_false_iff_ne.mpr HNE.out
        rcases hcase with ⟨hz, hq⟩ | hz
        · have c1 : ((ts.length : Int) == 0) = true := by rw [hz]; rfl
          have c2 : (e1 != 1) = false := by rw [hq]; rfl
          clear hz hq
          go_wp2_with fail
          refine (rLeft_calls _ g _ _ _ _ HR3.out).mono ?_
          rintro e4 w4 ⟨rfl, rfl⟩
          go_wp2
          go_meet
          case rel => exact ⟨by first | rfl | simp, ⟨_, HR3.out⟩, HB3⟩
        · have c1 : ((ts.length : Int) == 0) = false := beq_eq_false_iff_ne.mpr (by omega)
          clear hz
          go_wp2_with fail
          refine (rLeft_calls _ g _ _ _ _ HR3.out).mono ?_
          rintro e4 w4 ⟨rfl, rfl⟩
          go_wp2
          go_meet
          case rel => exact ⟨by first | rfl | simp, ⟨_, HR3.out⟩, HB3⟩
      case rest =>
        obtain ⟨rfl, HRc, HBc⟩ := hcut
        go_wp2
        go_loopg [11, 12] us.length (fun kq v11 v12 wr => ∃ (j : Nat), v11 = .int .i64 j ∧ Aside0 (j + kq = us.length) ∧ Aside0 (∃ v, RAt wr w.heap.size g v [] e1) ∧ Aside0 (Below w.heap.size w wr))
        case atStart => exact ⟨0, rfl, ⟨by omega⟩, HRc, HBc⟩
        case round =>
          obtain ⟨j2, rfl, HJ2, HS2, HBW2⟩ := hrel
          cases gk with
          | zero =>
            have hjl2 : ¬ (j2 : Int) < us.length := by have := HJ2.out; omega
            go_wp2
            go_ret
            exact ⟨rfl, HBW2.out⟩
          | succ k =>
            have hj2 : j2 < us.length := by have := HJ2.out; omega
            obtain ⟨t, a, A', c', ht, rfl, h8, hlc, hC, q0, q1, q2, q3, q4, q5, q6, q7, q8, q9, q10, q11, q12, q13, q14, q15⟩ := th_at (Kd.C_below H2.out HBW2.out) hj2
            have HTM : Aside0 (t.w ≤ 9223372036854775807) := ⟨HU.out t (List.mem_of_getElem? ht)⟩
            clear h8 hlc hC ht
            have hjl2 : (j2 : Int) < us.length := by omega
            obtain ⟨v4, hr4⟩ := HS2.out
            go_wp2_with fail
            have htk := took_all w.heap.size g v4 [] (fun x hx => by simp at hx) e1 wr hr4 t HTM.out A' c'
            rw [tookR_dead t e1 HNE.out] at htk
            refine htk.mono ?_
            rintro e2 w5 ⟨A3, c3, rfl, hk, _, _⟩
            have HB5 : Aside0 (Below w.heap.size w w5) := ⟨HBW2.out.trans (hk.below HBW2.out.size hr4.ge)⟩
            obtain ⟨v5, hr5, _, _⟩ := hk
            have HR5 := Aside0.mk hr5
            clear hr4 hr5 htk
            obtain ⟨kd, wd, hd⟩ : ∃ kd wd, dead t = (0, kd, 0, 0, wd, zero8, (0, 0), []) := ⟨_, _, rfl⟩
            have hd2 : thingOf (dead t) A3 c3 = #[.int .i64 0, .int .i64 kd, .int .u64 0, .int .i64 0, .int .i64 wd, .int .u8 0, .int .u8 0, .int .u8 0, .int .u8 0, .int .u8 0, .int .u8 0, .int .u8 0, .int .u8 0, .int .i16 0, .int .i16 0, .slice A3 0 c3] := by rw [hd]; rfl
            rw [hd2]
            clear hd hd2 q0 q1 q2 q3 q4 q5 q6 q7 q8 q9 q10 q11 q12 q13 q14 q15
            go_wp2_with fail
            have hnil : ∀ (W : World) (A : Option Addr), Kd.C (Kd.int .u8) W A ([] : List Int).length [] := fun W A => ⟨rfl, Nat.zero_le _, fun hp => absurd hp (by simp)⟩
            refine (alike_walk 0 0 kd 0 0 wd 0 0 0 0 0 0 0 0 0 0 A3 none 0 c3 0 [] rfl _ (hnil _ _) (Nat.zero_le _) (hnil _ _) (Nat.zero_le _)).mono ?_
            rintro e6 w6 ⟨rfl, hb⟩
            have HR6 := Aside0.mk (HR5.out.keep (F := fun _ => False) ((Chg.alloc (Chg.refl _ _) _).trans (Chg.of_below hb)) (fun _ _ h => h))
            have HB6 : Aside0 (Below w.heap.size w w6) := ⟨below_then (below_alloc HB5.out _) (by have := HB5.out.size; rw [World.size_alloc]; omega) hb⟩
            clear hb hnil
            go_wp2_with fail
            refine (rEnd_calls _ g _ _ _ _ HR6.out).mono ?_
            rw [show endR [] e1 = e1 by simp [endR]]
            rintro e7 w7 ⟨rfl, rfl⟩
            go_wp2_with fail
            refine (rLeft_calls _ g _ _ _ _ HR6.out).mono ?_
            rintro e8 w8 ⟨rfl, rfl⟩
            have hjL : (j2 : Int) + 1 ≤ 9223372036854775807 := by have := H2.out.2.1; omega
            go_wp2
            go_roundg k
            case measure => omega
            case rel => exact ⟨j2 + 1, by first | rfl | simp, ⟨by have := HJ2.out; omega⟩, ⟨_, HR6.out⟩, HB6⟩
    | succ k =>
      have hj : j < ts.length := by have := HJ.out; omega
      obtain ⟨t, a, A', c', ht, rfl, h8, hlc, hC, q0, q1, q2, q3, q4, q5, q6, q7, q8, q9, q10, q11, q12, q13, q14, q15⟩ := th_at (Kd.C_below H1.out HBW.out) hj
      have HTM : Aside0 (t.w ≤ 9223372036854775807) := ⟨HT.out t (List.mem_of_getElem? ht)⟩
      clear h8 hlc hC ht
      have hjl : (j : Int) < ts.length := by omega
      obtain ⟨v, l, e, hr, hby, hlb, he0⟩ := HS.out
      go_wp2_with fail
      refine (took_all w.heap.size g v l hby e wr hr t HTM.out A' c').mono ?_
      rintro e2 w3 ⟨A3, c3, rfl, hk, _, _⟩
      have HB3 : Aside0 (Below w.heap.size w w3) := ⟨HBW.out.trans (hk.below HBW.out.size hr.ge)⟩
      obtain ⟨v3, hr3, _, _⟩ := hk
      have HR3 := Aside0.mk hr3
      have HSUF := Aside0.mk (suf_took t l e)
      have HBYL := Aside0.mk hby
      have HLB := Aside0.mk hlb
      clear hr hby hlb he0 hr3
      go_wp2_with fail
      refine (rLeft_calls _ g _ _ _ _ HR3.out).mono ?_
      rintro e4 w4 ⟨rfl, rfl⟩
      have hle : (((tookR t l e).2.1.length : Nat) : Int) ≤ bf := by have := HSUF.out.length_le; have := HLB.out; omega
      go_wp2_with fail
      refine (rLeft_calls _ g _ _ _ _ HR3.out).mono ?_
      rintro e4 w4 ⟨rfl, rfl⟩
      have hjL : (j : Int) + 1 ≤ 9223372036854775807 := by have := H1.out.2.1; omega
      go_wp2
      go_roundg k
      case measure => omega
      case rel => exact ⟨j + 1, _, by first | rfl | simp, by first | rfl | simp, ⟨by have := HJ.out; omega⟩, ⟨_, _, _, HR3.out, HBYL.out.suf HSUF.out, Nat.le_refl _, fun h => absurd h (by omega)⟩, HB3⟩
end Go.Proofs.Ytjijmikpoenbcaa.Codec
