/- What functions of the program answer, each by a Lean function and the proof of its call; written by this session's program gp.py and by hand. Conditions: those that stand in each theorem. -/
import Derived.Test.YtmdidgdcdlodlaaQ0
import Derived.Test.YtmdidgdcdlodlaaQ3
namespace Go.Proofs.Ytmdidgdcdlodlaa.Q
open Go.RowKit Go.Proofs.YtmdidgdcdlodlaaW.PrintWords Go.Proofs.YtmdidgdcdlodlaaW.PrintLast Go.Proofs.YtmdidgdcdlodlaaW.PrintMore
attribute [local go_sem] max2_int min2_int max_two min_two max_three min_three max_four min_four   -- for this text's walks alone
set_option linter.unusedVariables false
set_option linter.unusedSimpArgs false

/-! ### cert_claim_sum: function 45 -/
/-- adding up, no number above MaxNum -/
def sumL (n : Int) : List Int → Option Int
  | [] => some n
  | p :: ps => if p > 4611686018427387903 - n then none else sumL (n + p) ps
def clsum (ys zs : List Int) : Int × Bool := match sumL 0 (ys ++ zs) with | some n => (n, true) | none => (0, false)
def cert_claim_sum.f (_R _C : Int) (_es : List S69) (_ps : List S50) (ys zs : List Int) : Option (Int × Bool) :=
  if (∀ p ∈ ys ++ zs, 0 ≤ p) ∧ ys.length ≤ 1152921504606846976 ∧ zs.length ≤ 1152921504606846976 then some (clsum ys zs) else none
theorem rd_drop (l : List Int) (x : Int) (h0 : 0 ≤ x) (h1 : x < l.length) : l.drop x.toNat = rd l x :: l.drop (x + 1).toNat := by
  have h2 : x.toNat < l.length := by omega
  rw [List.drop_eq_getElem_cons h2]
  congr 1
  · simp [rd, List.getD, h2]
  · congr 1; omega
theorem rd_mem (l : List Int) (x : Int) (h0 : 0 ≤ x) (h1 : x < l.length) : rd l x ∈ l := by
  have h2 : x.toNat < l.length := by omega
  simp [rd, List.getD, h2]
theorem ret_pair {a b : Int} {p q : Bool} (h : (a, p) = (b, q)) : Ending.returned (.tuple #[.int .i64 a, .bool p]) = .returned (.tuple #[.int .i64 b, .bool q]) := by cases h; rfl
/-- of two lists, those from the k-th on -/
def restOf (ys zs : List Int) : Nat → List Int
  | 0 => ys ++ zs
  | 1 => zs
  | _ => []

set_option maxHeartbeats 8000000 in
set_option maxRecDepth 100000 in
theorem cert_claim_sum.calls (a0_0 : Int) (a0_1 : Int) (A0_2 : Option Addr) (c0_2 : Nat) (l0_2 : List (S69)) (A0_3 : Option Addr) (c0_3 : Nat) (l0_3 : List (S50)) (A0_4 : Option Addr) (c0_4 : Nat) (l0_4 : List Int) (A0_5 : Option Addr) (c0_5 : Nat) (l0_5 : List Int) (r1 : Int) (r2 : Bool) (w : World)
    (hr0_2 : Kd.C k69 w A0_2 l0_2.length l0_2) (hc0_2 : l0_2.length ≤ c0_2) (hr0_3 : Kd.C k50 w A0_3 l0_3.length l0_3) (hc0_3 : l0_3.length ≤ c0_3) (hr0_4 : Kd.C (Kd.int .i64) w A0_4 l0_4.length l0_4) (hc0_4 : l0_4.length ≤ c0_4) (hr0_5 : Kd.C (Kd.int .i64) w A0_5 l0_5.length l0_5) (hc0_5 : l0_5.length ≤ c0_5)
    (h : cert_claim_sum.f a0_0 a0_1 l0_2 l0_3 l0_4 l0_5 = some (r1, r2)) :
    Calls Try.prog 45 #[.agg #[.int .i64 a0_0, .int .i64 a0_1, .slice A0_2 l0_2.length c0_2, .slice A0_3 l0_3.length c0_3, .slice A0_4 l0_4.length c0_4, .slice A0_5 l0_5.length c0_5]] w fun e w' => e = .returned (.tuple #[.int .i64 r1, .bool r2]) ∧ Below w.heap.size w w' := by
  have HR4 := Aside0.mk hr0_4
  have HR5 := Aside0.mk hr0_5
  clear hr0_2 hc0_2 hr0_3 hc0_3 hr0_4 hc0_4 hr0_5 hc0_5
  unfold cert_claim_sum.f at h
  split at h
  · rename_i hp
    obtain ⟨hp, hl4, hl5⟩ := hp
    have HP := Aside0.mk hp
    have HL4 := Aside0.mk hl4
    have HL5 := Aside0.mk hl5
    have H := Aside0.mk (Option.some.inj h)
    clear hp hl4 hl5 h
    have i0 : ∀ w, (Instr.index 75 (.agg #[.slice A0_4 l0_4.length c0_4, .slice A0_5 l0_5.length c0_5]) (.int .i64 0)).run Try.prog w = .ok (.slice A0_4 l0_4.length c0_4) w := fun _ => by kernel_rfl
    have i1 : ∀ w, (Instr.index 75 (.agg #[.slice A0_4 l0_4.length c0_4, .slice A0_5 l0_5.length c0_5]) (.int .i64 1)).run Try.prog w = .ok (.slice A0_5 l0_5.length c0_5) w := fun _ => by kernel_rfl
    have I0 := Aside0.mk i0
    have I1 := Aside0.mk i1
    clear i0 i1
    go_enter Try.func45, Try.ntmps45
    go_wp2
    go_loopw [4, 16] (fun v4 v16 wr => ∃ (n : Int) (k : Nat), v4 = .int .i64 n ∧ v16 = .int .i64 k ∧ Aside0 (k ≤ 2) ∧ Aside0 (0 ≤ n ∧ n ≤ 4611686018427387903) ∧ Aside0 (sumL 0 (l0_4 ++ l0_5) = sumL n (restOf l0_4 l0_5 k)) ∧ Aside0 (Below w.heap.size w wr)) (fun _ v16 _ => 2 - (intOf v16).toNat)
    case atStart => exact ⟨0, 0, rfl, rfl, ⟨by omega⟩, ⟨by omega⟩, ⟨rfl⟩, ⟨below_alloc (Below.refl _ _) _⟩⟩
    case round =>
      obtain ⟨n, k, rfl, rfl, HK, HN, HS, HB⟩ := hrel
      have hk := HK.out
      by_cases hk2 : k < 2
      · obtain ⟨A, c, l, after, HR, HL, HRest, HI, HNext⟩ : ∃ A c l after, Aside0 (Kd.C (Kd.int .i64) w A l.length l) ∧ Aside0 (l.length ≤ 1152921504606846976) ∧ Aside0 (restOf l0_4 l0_5 k = l ++ after ∧ ∀ p ∈ l, 0 ≤ p) ∧
            Aside0 (∀ w, (Instr.index 75 (.agg #[.slice A0_4 l0_4.length c0_4, .slice A0_5 l0_5.length c0_5]) (.int .i64 k)).run Try.prog w = .ok (.slice A l.length c) w) ∧ Aside0 (restOf l0_4 l0_5 (k + 1) = after) := by
          rcases (show k = 0 ∨ k = 1 from by omega) with rfl | rfl
          · exact ⟨A0_4, c0_4, l0_4, l0_5, HR4, HL4, ⟨rfl, fun p hp => HP.out p (by simp [hp])⟩, I0, ⟨rfl⟩⟩
          · exact ⟨A0_5, c0_5, l0_5, [], HR5, HL5, ⟨by simp [restOf], fun p hp => HP.out p (by simp [hp])⟩, I1, ⟨rfl⟩⟩
        have hi := HI.out
        obtain ⟨wo, rfl⟩ : ∃ wo : World, wo = wr := ⟨_, rfl⟩
        go_wp2
        clear hi
        go_loopw [4, 21] (fun v4 v21 wr => ∃ (m : Int) (x : Int), v4 = .int .i64 m ∧ v21 = .int .i64 x ∧ Aside0 (0 ≤ x ∧ x ≤ l.length) ∧ Aside0 (0 ≤ m ∧ m ≤ 4611686018427387903) ∧ Aside0 (sumL 0 (l0_4 ++ l0_5) = sumL m (l.drop x.toNat ++ after)) ∧ Aside0 (Below w.heap.size w wr)) (fun _ v21 _ => l.length - (intOf v21).toNat)
        case atStart => exact ⟨n, 0, rfl, rfl, ⟨by omega⟩, HN, ⟨by rw [HS.out, HRest.out.1]; simp⟩, HB⟩
        case round =>
          obtain ⟨m, x, rfl, rfl, HX, HM, HS2, HB2⟩ := hrel
          obtain ⟨hx0, hx1⟩ := HX.out
          obtain ⟨hm0, hm1⟩ := HM.out
          by_cases hlt : x < (l.length : Int)
          · obtain ⟨ad, ead, h0⟩ := Kd.at_int HR.out x hx0 hlt
            have hdr := rd_drop l x hx0 hlt
            have hpos : 0 ≤ rd l x := HRest.out.2 _ (rd_mem l x hx0 hlt)
            cases ead
            replace h0 := pw_cell_below HB2.out h0
            obtain ⟨p, hpe⟩ : ∃ p, p = rd l x := ⟨_, rfl⟩
            rw [← hpe] at h0 hdr hpos
            have HD := Aside0.mk hdr
            clear hdr hpe
            have hx2 : x + 1 ≤ 1152921504606846976 := by have := HL.out; omega
            by_cases hq : p > 4611686018427387903 - m
            · go_wp2
              go_ret2
              refine ⟨ret_pair ?_, HB2.out⟩
              rw [← H.out, clsum, HS2.out, HD.out]
              simp [sumL, hq]
            · go_wp2
              go_roundw
              case rel => exact ⟨m + p, x + 1, by go_num, by go_num, ⟨by omega⟩, ⟨by omega⟩, ⟨by rw [HS2.out, HD.out]; simp [sumL, hq]⟩, HB2⟩
              case measure => simp [intOf]; omega
          · go_wp2
            go_roundw
            case rel => exact ⟨m, k + 1, rfl, by go_num, ⟨by omega⟩, HM, ⟨by rw [HS2.out, HNext.out, List.drop_eq_nil_of_le (by omega)]; simp⟩, HB2⟩
            case measure => simp [intOf]; omega
      · obtain rfl : k = 2 := by omega
        go_wp2
        go_ret2
        refine ⟨ret_pair ?_, HB.out⟩
        rw [← H.out, clsum, HS.out]
        simp [restOf, sumL]
  · cases h
def holdB (es : List S69) (ys zs : List Int) : Bool := (ys ++ zs).all (fun p => decide (0 ≤ p)) && es.all (fun e => decide (e.f2 - rd ys e.f0 ≤ rd zs e.f1))
def inRange (es : List S69) (ys zs : List Int) : Prop := ∀ e ∈ es, 0 ≤ e.f0 ∧ e.f0 < ys.length ∧ 0 ≤ e.f1 ∧ e.f1 < zs.length ∧ 1 ≤ e.f2 ∧ e.f2 ≤ 1099513724929
def clm (R C : Int) (Ae : Option Addr) (ce : Nat) (es : List S69) (Ap : Option Addr) (cp : Nat) (ps : List S50) (Ay : Option Addr) (cy : Nat) (ys : List Int) (Az : Option Addr) (cz : Nat) (zs : List Int) : Array Value :=
  #[.int .i64 R, .int .i64 C, .slice Ae es.length ce, .slice Ap ps.length cp, .slice Ay ys.length cy, .slice Az zs.length cz]
theorem rdT_mem (l : List S69) (x : Int) (h0 : 0 ≤ x) (h1 : x < l.length) : rd_T69 l x ∈ l := by
  have h2 : x.toNat < l.length := by omega
  simp [rd_T69, List.getD, h2]

set_option maxHeartbeats 8000000 in
set_option maxRecDepth 100000 in
theorem dual_calls (a0_0 : Int) (a0_1 : Int) (A0_2 : Option Addr) (c0_2 : Nat) (l0_2 : List (S69)) (A0_3 : Option Addr) (c0_3 : Nat) (l0_3 : List (S50)) (A0_4 : Option Addr) (c0_4 : Nat) (l0_4 : List Int) (A0_5 : Option Addr) (c0_5 : Nat) (l0_5 : List Int) (w : World)
    (hr0_2 : Kd.C k69 w A0_2 l0_2.length l0_2) (hr0_4 : Kd.C (Kd.int .i64) w A0_4 l0_4.length l0_4) (hr0_5 : Kd.C (Kd.int .i64) w A0_5 l0_5.length l0_5)
    (hin : inRange l0_2 l0_4 l0_5) (hl2 : l0_2.length ≤ 1152921504606846976) (hl4 : l0_4.length ≤ 1152921504606846976) (hl5 : l0_5.length ≤ 1152921504606846976) (hfit : ∀ p ∈ l0_4, p ≤ 9223372036854775807) :
    Calls Try.prog 34 #[.agg (clm a0_0 a0_1 A0_2 c0_2 l0_2 A0_3 c0_3 l0_3 A0_4 c0_4 l0_4 A0_5 c0_5 l0_5)] w fun e w' => e = .returned (.int .i64 (if holdB l0_2 l0_4 l0_5 then 0 else 181)) ∧ Below w.heap.size w w' := by
  unfold clm
  have HR2 := Aside0.mk hr0_2
  have HR4 := Aside0.mk hr0_4
  have HR5 := Aside0.mk hr0_5
  have HIN := Aside0.mk hin
  have HFIT := Aside0.mk hfit
  clear hfit
  have HL2 := Aside0.mk hl2
  have HL4 := Aside0.mk hl4
  have HL5 := Aside0.mk hl5
  clear hr0_2 hr0_4 hr0_5 hin hl2 hl4 hl5
  have i0 : ∀ w, (Instr.index 75 (.agg #[.slice A0_4 l0_4.length c0_4, .slice A0_5 l0_5.length c0_5]) (.int .i64 0)).run Try.prog w = .ok (.slice A0_4 l0_4.length c0_4) w := fun _ => by kernel_rfl
  have i1 : ∀ w, (Instr.index 75 (.agg #[.slice A0_4 l0_4.length c0_4, .slice A0_5 l0_5.length c0_5]) (.int .i64 1)).run Try.prog w = .ok (.slice A0_5 l0_5.length c0_5) w := fun _ => by kernel_rfl
  have I0 := Aside0.mk i0
  have I1 := Aside0.mk i1
  clear i0 i1
  obtain ⟨R, hR⟩ : ∃ R : Int, R = if holdB l0_2 l0_4 l0_5 then 0 else 181 := ⟨_, rfl⟩
  rw [← hR]
  have HRES := Aside0.mk hR
  clear hR
  go_enter Try.func34, Try.ntmps34
  go_wp2
  go_loopw [16] (fun v16 wr => ∃ (k : Nat), v16 = .int .i64 k ∧ Aside0 (k ≤ 2) ∧ Aside0 ((l0_4 ++ l0_5).all (fun p => decide (0 ≤ p)) = (restOf l0_4 l0_5 k).all (fun p => decide (0 ≤ p))) ∧ Aside0 (wr.heap[w.heap.size]? = some (.cells #[.int .i64 a0_0, .int .i64 a0_1, .slice A0_2 l0_2.length c0_2, .slice A0_3 l0_3.length c0_3, .slice A0_4 l0_4.length c0_4, .slice A0_5 l0_5.length c0_5] 55 (0, 0))) ∧ Aside0 (Below w.heap.size w wr)) (fun v16 _ => 2 - (intOf v16).toNat)
  case atStart => exact ⟨0, rfl, ⟨by omega⟩, ⟨rfl⟩, ⟨blk_new _ _⟩, ⟨below_alloc (Below.refl _ _) _⟩⟩
  case round =>
    obtain ⟨k, rfl, HK, HS, BK, HB⟩ := hrel
    have hk := HK.out
    by_cases hk2 : k < 2
    · obtain ⟨A, c, l, after, HR, HL, HRest, HI, HNext⟩ : ∃ A c l after, Aside0 (Kd.C (Kd.int .i64) w A l.length l) ∧ Aside0 (l.length ≤ 1152921504606846976) ∧ Aside0 (restOf l0_4 l0_5 k = l ++ after) ∧
          Aside0 (∀ w, (Instr.index 75 (.agg #[.slice A0_4 l0_4.length c0_4, .slice A0_5 l0_5.length c0_5]) (.int .i64 k)).run Try.prog w = .ok (.slice A l.length c) w) ∧ Aside0 (restOf l0_4 l0_5 (k + 1) = after) := by
        rcases (show k = 0 ∨ k = 1 from by omega) with rfl | rfl
        · exact ⟨A0_4, c0_4, l0_4, l0_5, HR4, HL4, ⟨rfl⟩, I0, ⟨rfl⟩⟩
        · exact ⟨A0_5, c0_5, l0_5, [], HR5, HL5, ⟨by simp [restOf]⟩, I1, ⟨rfl⟩⟩
      have hi := HI.out
      obtain ⟨wo, rfl⟩ : ∃ wo : World, wo = wr := ⟨_, rfl⟩
      go_wp2
      clear hi
      go_loopw [21] (fun v21 wr => ∃ (x : Int), v21 = .int .i64 x ∧ Aside0 (0 ≤ x ∧ x ≤ l.length) ∧ Aside0 ((l0_4 ++ l0_5).all (fun p => decide (0 ≤ p)) = (l.drop x.toNat ++ after).all (fun p => decide (0 ≤ p))) ∧ Aside0 (wr = wo)) (fun v21 _ => l.length - (intOf v21).toNat)
      case atStart => exact ⟨0, rfl, ⟨by omega⟩, ⟨by rw [HS.out, HRest.out]; simp⟩, ⟨rfl⟩⟩
      case round =>
        obtain ⟨x, rfl, HX, HS2, HW⟩ := hrel
        obtain rfl := HW.out
        clear HW
        obtain ⟨hx0, hx1⟩ := HX.out
        by_cases hlt : x < (l.length : Int)
        · obtain ⟨ad, ead, h0⟩ := Kd.at_int HR.out x hx0 hlt
          have hdr := rd_drop l x hx0 hlt
          cases ead
          replace h0 := pw_cell_below HB.out h0
          obtain ⟨p, hpe⟩ : ∃ p, p = rd l x := ⟨_, rfl⟩
          rw [← hpe] at h0 hdr
          have HD := Aside0.mk hdr
          clear hdr hpe
          have hx2 : x + 1 ≤ 1152921504606846976 := by have := HL.out; omega
          by_cases hq : p < 0
          · go_wp2
            go_ret
            refine ⟨ret_i64 ?_, HB.out⟩
            rw [HRES.out, holdB, HS2.out, HD.out]
            have hq2 : ¬ 0 ≤ p := by omega
            simp [hq2]
          · go_wp2
            go_roundw
            case rel => exact ⟨x + 1, by go_num, ⟨by omega⟩, ⟨by rw [HS2.out, HD.out]; simp; omega⟩, ⟨by first | rfl | trivial⟩⟩
            case measure => simp [intOf]; omega
        · go_wp2
          go_roundw
          case rel => exact ⟨k + 1, by go_num, ⟨by omega⟩, ⟨by rw [HS2.out, HNext.out, List.drop_eq_nil_of_le (by omega)]; simp⟩, BK, HB⟩
          case measure => simp [intOf]; omega
    · obtain rfl : k = 2 := by omega
      have HALL : Aside0 ((l0_4 ++ l0_5).all (fun p => decide (0 ≤ p)) = true) := ⟨by rw [HS.out]; rfl⟩
      have c0 : wr.cell? ⟨w.heap.size, 0, none⟩ = some (.int .i64 a0_0) := (blk_cell BK.out 0).trans rfl
      have c1 : wr.cell? ⟨w.heap.size, 1, none⟩ = some (.int .i64 a0_1) := (blk_cell BK.out 1).trans rfl
      have c2 : wr.cell? ⟨w.heap.size, 2, none⟩ = some (.slice A0_2 l0_2.length c0_2) := (blk_cell BK.out 2).trans rfl
      have c3 : wr.cell? ⟨w.heap.size, 3, none⟩ = some (.slice A0_3 l0_3.length c0_3) := (blk_cell BK.out 3).trans rfl
      have c4 : wr.cell? ⟨w.heap.size, 4, none⟩ = some (.slice A0_4 l0_4.length c0_4) := (blk_cell BK.out 4).trans rfl
      have c5 : wr.cell? ⟨w.heap.size, 5, none⟩ = some (.slice A0_5 l0_5.length c0_5) := (blk_cell BK.out 5).trans rfl
      clear HS HK hk hk2
      obtain ⟨wo, rfl⟩ : ∃ wo : World, wo = wr := ⟨_, rfl⟩
      go_wp2
      clear c0 c1 c2 c3 c4 c5
      go_loopw [33] (fun v33 wr => ∃ (x : Int), v33 = .int .i64 x ∧ Aside0 (0 ≤ x ∧ x ≤ l0_2.length) ∧ Aside0 (l0_2.all (fun e => decide (e.f2 - rd l0_4 e.f0 ≤ rd l0_5 e.f1)) = (l0_2.drop x.toNat).all (fun e => decide (e.f2 - rd l0_4 e.f0 ≤ rd l0_5 e.f1))) ∧ Aside0 (wr.heap[w.heap.size]? = some (.cells #[.int .i64 a0_0, .int .i64 a0_1, .slice A0_2 l0_2.length c0_2, .slice A0_3 l0_3.length c0_3, .slice A0_4 l0_4.length c0_4, .slice A0_5 l0_5.length c0_5] 55 (0, 0))) ∧ Aside0 (Below w.heap.size w wr)) (fun v33 _ => l0_2.length - (intOf v33).toNat)
      case atStart => exact ⟨0, rfl, ⟨by omega⟩, ⟨rfl⟩, BK, HB⟩
      case round =>
        clear BK HB
        obtain ⟨x, rfl, HX, HS, BK, HB⟩ := hrel
        obtain ⟨hx0, hx1⟩ := HX.out
        by_cases hlt : x < (l0_2.length : Int)
        · have hx2 : x + 1 ≤ 1152921504606846976 := by have := HL2.out; omega
          have hdr := drop_T69 l0_2 x hx0 hlt
          have hin := HIN.out _ (rdT_mem l0_2 x hx0 hlt)
          obtain ⟨ad, ead, h0, h1, h2⟩ := at_T69 HR2.out x hx0 hlt
          cases ead
          replace h0 := pw_cell_below HB.out h0
          replace h1 := pw_cell_below HB.out h1
          replace h2 := pw_cell_below HB.out h2
          obtain ⟨e, he⟩ : ∃ e, e = rd_T69 l0_2 x := ⟨_, rfl⟩
          rw [← he] at h0 h1 h2 hdr hin
          have HD := Aside0.mk hdr
          clear he hdr
          obtain ⟨e0, e1, e2, e3, e4, e5⟩ := hin
          obtain ⟨ay, eay, hy⟩ := Kd.at_int HR4.out e.f0 e0 e1
          obtain ⟨az, eaz, hz⟩ := Kd.at_int HR5.out e.f1 e2 e3
          cases eay
          cases eaz
          replace hy := pw_cell_below HB.out hy
          replace hz := pw_cell_below HB.out hz
          have hyp : 0 ≤ rd l0_4 e.f0 := by have h := HALL.out; rw [List.all_eq_true] at h; simpa using h _ (List.mem_append_left _ (rd_mem l0_4 e.f0 e0 e1))
          have hyq : rd l0_4 e.f0 ≤ 9223372036854775807 := HFIT.out _ (rd_mem l0_4 e.f0 e0 e1)
          obtain ⟨py, hpy⟩ : ∃ p, p = rd l0_4 e.f0 := ⟨_, rfl⟩
          obtain ⟨pz, hpz⟩ : ∃ p, p = rd l0_5 e.f1 := ⟨_, rfl⟩
          rw [← hpy] at hy hyp hyq
          rw [← hpz] at hz
          have HPY := Aside0.mk hpy
          have HPZ := Aside0.mk hpz
          clear hpy hpz
          have c0 : wr.cell? ⟨w.heap.size, 0, none⟩ = some (.int .i64 a0_0) := (blk_cell BK.out 0).trans rfl
          have c1 : wr.cell? ⟨w.heap.size, 1, none⟩ = some (.int .i64 a0_1) := (blk_cell BK.out 1).trans rfl
          have c2 : wr.cell? ⟨w.heap.size, 2, none⟩ = some (.slice (some ad) l0_2.length c0_2) := (blk_cell BK.out 2).trans rfl
          have c3 : wr.cell? ⟨w.heap.size, 3, none⟩ = some (.slice A0_3 l0_3.length c0_3) := (blk_cell BK.out 3).trans rfl
          have c4 : wr.cell? ⟨w.heap.size, 4, none⟩ = some (.slice (some ay) l0_4.length c0_4) := (blk_cell BK.out 4).trans rfl
          have c5 : wr.cell? ⟨w.heap.size, 5, none⟩ = some (.slice (some az) l0_5.length c0_5) := (blk_cell BK.out 5).trans rfl
          have z0 : w.heap.size < wr.heap.size := blk_lt BK.out
          have zy := World.block_lt_of_cell? wr _ hy
          have zz := World.block_lt_of_cell? wr _ hz
          by_cases hq : pz < e.f2 - py
          · go_wp2
            go_quiet (fail)
            go_wp2
            go_ret
            refine ⟨ret_i64 ?_, ?_⟩
            · rw [HRES.out, holdB, HS.out, HD.out]
              have hq2 : ¬ e.f2 - py ≤ pz := by omega
              simp [← HPY.out, ← HPZ.out, hq2]
            · exact pw_below_drewN (below_alloc HB.out _) _
          · go_wp2
            go_quiet (fail)
            go_wp2
            go_roundw
            case rel => have hq2 : e.f2 - py ≤ pz := (by omega); repeat apply Exists.intro
                        exact ⟨⟨x + 1, by go_num, ⟨by omega⟩, ⟨by rw [HS.out, HD.out]; simp [← HPY.out, ← HPZ.out, hq2]⟩, ⟨blk_drewN (blk_alloc BK.out _) _⟩, ⟨pw_below_drewN (below_alloc HB.out _) _⟩⟩, rfl⟩
            case measure => simp [intOf]; omega
        · go_wp2
          go_ret
          refine ⟨ret_i64 ?_, HB.out⟩
          rw [HRES.out, holdB, HALL.out, HS.out, List.drop_eq_nil_of_le (by omega)]
          simp

end Go.Proofs.Ytmdidgdcdlodlaa.Q
