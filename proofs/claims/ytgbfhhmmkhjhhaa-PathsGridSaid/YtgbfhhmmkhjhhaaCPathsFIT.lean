/- Paths: check, From. Conditions: those that stand in each theorem. Written in session 6. -/
import Derived.Test.YtgbfhhmmkhjhhaaCPathsC
namespace Go.Proofs.Ytgbfhhmmkhjhhaa.Paths
open Go.RowKit Go.Proofs.YtgbfhhmmkhjhhaaW.PrintWords Go.Proofs.YtgbfhhmmkhjhhaaW.PrintLast Go.Proofs.YtgbfhhmmkhjhhaaW.PrintMore Go.Proofs.Ytgbfhhmmkhjhhaa.HeapW Go.Proofs.Ytgbfhhmmkhjhhaa.HeapP Go.Proofs.Ytgbfhhmmkhjhhaa.MapAt Go.Proofs.Ytgbfhhmmkhjhhaa.Dij
open Go.Proofs.Ytgbfhhmmkhjhhaa.HeapIR hiding It Pt
open Go.Proofs.Ytgbfhhmmkhjhhaa.Roads (flat_keep R_ty Flat kRd rd_at NetS outOf isN isN_iff isN_no)
set_option linter.unusedVariables false
set_option linter.unusedSimpArgs false
set_option maxRecDepth 100000 in
theorem eql_ptr (g : Nat) (W : World) : (binOp .eql 26 (.pointer (some ⟨g, 0, none⟩)) (.pointer none)).run Try.prog W = .ok (.bool false) W := by first | rfl | (simp [binOp]; done) | kernel_rfl
set_option maxRecDepth 100000 in
theorem eql_ptr0 (W : World) : (binOp .eql 26 (.pointer none) (.pointer none)).run Try.prog W = .ok (.bool true) W := by first | rfl | (simp [binOp]; done) | kernel_rfl
/-- roads that were read: what each node's are -/
theorem net_of {n : Nat} {out : List (List Rd)} (h : Roads.Good n out) (hl : out.length = n) : Net n (outOf out) where
  road u r h0 hn hr := by
    unfold outOf at hr
    rw [if_pos (isN_iff.2 (by omega))] at hr
    have hi : u.toNat < out.length := by omega
    rw [List.getD_eq_getElem?_getD, List.getElem?_eq_getElem hi] at hr
    obtain ⟨g1, _⟩ := h u.toNat _ (List.getElem?_eq_getElem hi)
    have := g1 r hr
    omega
theorem out_len {n : Nat} {out : List (List Rd)} (h : Roads.Good n out) (hl : out.length = n) (hn : n ≤ 4096) (v : Int) : (outOf out v).length ≤ 4096 := by
  unfold outOf
  split
  · rename_i hv
    have hi : v.toNat < out.length := by have := isN_iff.1 hv; omega
    rw [List.getD_eq_getElem?_getD, List.getElem?_eq_getElem hi]
    have := h.len (List.getElem?_eq_getElem hi) (by omega)
    simp only [Option.getD_some]
    omega
  · simp
theorem c_of_box {w : World} {b : Nat} {cs : List Int} {fr : Array Value} (h : w.heap[b]? = some (.cells fr 3 (0, 0))) (hf : fr = (cs.map (Value.int .i64)).toArray) (hl : cs.length ≤ 9223372036854775807) : Kd.C kInt w (some ⟨b, 0, none⟩) cs.length cs := by
  refine ⟨rfl, hl, fun _ => ⟨⟨b, 0, none⟩, rfl, fun j p hp => ⟨[.int .i64 p], rfl, rfl, fun i u hu => ?_⟩⟩⟩
  have hi : i = 0 := by
    have := (List.getElem?_eq_some_iff.1 hu).1
    simp at this
    omega
  subst hi
  simp at hu
  subst hu
  rw [add_at, cell_of_row w b _ fr 3 (0, 0) h, hf]
  simp only [Nat.zero_add, Nat.add_zero]
  show (List.map (Value.int .i64) cs).toArray[j * 1]? = _
  rw [Nat.mul_one]
  simp [hp]
set_option maxHeartbeats 3200000 in
theorem check_none (A : Option Addr) (m c : Nat) (w : World) : Calls Try.prog 26 #[.pointer none, .slice A m c] w fun e w' => e = .returned (.int .i64 2) ∧ w' = w := by
  have q := eql_ptr0
  go_enter Try.func26, Try.ntmps26
  go_wp2
  go_ret
  exact ⟨rfl, rfl⟩
set_option maxHeartbeats 3200000 in
theorem check_dead (g : Nat) (v0 v1 : Value) (A : Option Addr) (m c : Nat) (w : World) (h : w.heap[g]? = some (.cells #[v0, v1, .map none] 72 (0, 0))) : Calls Try.prog 26 #[.pointer (some ⟨g, 0, none⟩), .slice A m c] w fun e w' => e = .returned (.int .i64 2) ∧ w' = w := by
  have H := Aside0.mk h
  have q := eql_ptr
  clear h
  go_enter Try.func26, Try.ntmps26
  go_wp2_with fail
  refine (Roads.road_dead g v0 v1 (-1) (-1) 0 w H.out).mono ?_
  rintro e w1 ⟨rfl, rfl⟩
  go_wp2
  go_ret
  exact ⟨rfl, rfl⟩
theorem road_minus {w : World} {base g : Nat} {ps : List Roads.Pt} {out : List (List Rd)} {F : Nat → Prop} (h : NetS w base g ps out F) : Calls Try.prog 17 #[.pointer (some ⟨g, 0, none⟩), .int .i64 (-1), .int .i64 (-1), .int .i64 0] w fun e w' => e = .returned (.int .i64 131) ∧ w' = w := by
  obtain ⟨PA, pc, OA, oc, b, hs, h1, rfl, h3⟩ := h
  exact h1.road_gone (-1) (-1) 0 (fun q => by omega)
theorem int_at {w : World} {A : Option Addr} {l : List Int} {n : Nat} (h : Kd.C kInt w A n l) {j : Nat} (hj : j < l.length) (hn : n = l.length) : ∃ a, A = some a ∧ ∀ w', Below w.heap.size w w' → w'.cell? (a.add j) = some (.int .i64 l[j]) := by
  obtain ⟨a, ha, h2⟩ := h.2.2 (by omega)
  obtain ⟨us, k1, k2, k3⟩ := h2 j l[j] (List.getElem?_eq_getElem hj)
  cases k2
  refine ⟨a, ha, fun w' hb => pw_cell_below hb ?_⟩
  have := k3 0 _ rfl
  have e : j * kInt.sz + 0 = j := Nat.mul_one j
  rw [e] at this
  exact this
/-- are they all nodes -/
def checkP (n : Nat) (l : List Int) : Int := if l.all (isN n) = true then 0 else 131
set_option maxHeartbeats 6400000 in
set_option maxRecDepth 100000 in
theorem check_calls {w : World} {base g : Nat} {ps : List Roads.Pt} {out : List (List Rd)} {F : Nat → Prop} (h : NetS w base g ps out F) (hb : base ≤ w.heap.size) (A : Option Addr) (c : Nat) (l : List Int) (hC : Kd.C kInt w A l.length l) (hll : l.length ≤ 1000000000000) :
    Calls Try.prog 26 #[.pointer (some ⟨g, 0, none⟩), .slice A l.length c] w fun e w' => e = .returned (.int .i64 (checkP out.length l)) ∧ Below w.heap.size w w' := by
  have H := Aside0.mk h
  have HB := Aside0.mk hb
  have HC := Aside0.mk hC
  have HLL := Aside0.mk hll
  have q := eql_ptr
  obtain ⟨m, hm⟩ : ∃ m, m = l.length := ⟨_, rfl⟩
  have HM := Aside0.mk hm
  rw [← hm]
  clear h hb hC hll hm
  go_enter Try.func26, Try.ntmps26
  go_wp2_with fail
  refine (road_minus H.out).mono ?_
  rintro e w1 ⟨rfl, hw1⟩
  have hw2 := hw1.symm
  clear hw1
  subst hw2
  go_wp2_with fail
  go_loopg [4, 16] m (fun kq v4 v16 w' => ∃ k : Nat, v4 = .int .i64 0 ∧ v16 = .int .i64 k ∧ Aside0 (k + kq = m) ∧ Aside0 (∀ j x, j < k → l[j]? = some x → isN out.length x = true) ∧ Aside0 (Below w.heap.size w w'))
  case atStart => exact ⟨0, rfl, rfl, ⟨by omega⟩, ⟨fun j x hj => absurd hj (Nat.not_lt_zero _)⟩, ⟨Below.refl _ _⟩⟩
  case round =>
    obtain ⟨k, rfl, rfl, HK, HP, HBW⟩ := hrel
    cases gk with
    | zero =>
      have hk : m = k := by have := HK.out; omega
      subst hk
      have hgt : decide (m < m) = false := decide_eq_false (by omega)
      go_wp2
      go_ret
      refine ⟨?_, HBW.out⟩
      have e : checkP out.length l = 0 := by
        unfold checkP
        rw [if_pos]
        rw [List.all_eq_true]
        intro x hx
        obtain ⟨j, hj⟩ := List.getElem?_of_mem hx
        exact HP.out j x (by have := (List.getElem?_eq_some_iff.1 hj).1; have := HM.out; omega) hj
      rw [e]
      rfl
    | succ gk2 =>
      have hkl : k < m := by have := HK.out; omega
      have hlt : decide (k < m) = true := decide_eq_true hkl
      have hltI : (k : Int) < m := by omega
      obtain ⟨a, ha, hcx⟩ := int_at HC.out (by rw [← HM.out]; exact hkl) rfl
      have hq := hcx wr HBW.out
      obtain ⟨x, hx⟩ : ∃ x, x = l[k]'(by rw [← HM.out]; exact hkl) := ⟨_, rfl⟩
      have HX : Aside0 (l[k]? = some x) := ⟨by rw [hx]; exact List.getElem?_eq_getElem _⟩
      rw [← hx] at hq
      subst ha
      have hwk : wrap64 ((k : Int) + 1) = (k : Int) + 1 := by unfold wrap64; have := HK.out; have := HLL.out; have := HM.out; omega
      clear hx hcx
      by_cases h0 : x < 0
      · have hd : decide (x < 0) = true := decide_eq_true h0
        have H0 := Aside0.mk h0
        clear h0
        go_wp2
        go_ret
        refine ⟨?_, HBW.out⟩
        have e : checkP out.length l = 131 := by
          unfold checkP
          rw [if_neg]
          intro q
          have := isN_iff.1 (List.all_eq_true.1 q x (List.mem_of_getElem? HX.out))
          have := H0.out
          omega
        rw [e]
        rfl
      · have hd : decide (x < 0) = false := decide_eq_false h0
        have H0 := Aside0.mk h0
        clear h0
        go_wp2_with fail
        refine ((H.out.below HBW.out).nodes).mono ?_
        rintro e w2 ⟨rfl, hw1⟩
        have hw2 := hw1.symm
        clear hw1
        subst hw2
        by_cases h1 : (out.length : Int) ≤ x
        · have hd1 : decide ((out.length : Int) ≤ x) = true := decide_eq_true h1
          have H1 := Aside0.mk h1
          clear h1
          go_wp2
          go_ret
          refine ⟨?_, HBW.out⟩
          have e : checkP out.length l = 131 := by
            unfold checkP
            rw [if_neg]
            intro q
            have := isN_iff.1 (List.all_eq_true.1 q x (List.mem_of_getElem? HX.out))
            have := H1.out
            omega
          rw [e]
          rfl
        · have hd1 : decide ((out.length : Int) ≤ x) = false := decide_eq_false h1
          have H1 := Aside0.mk h1
          clear h1
          go_wp2
          go_roundg gk2
          case measure => omega
          case rel => exact ⟨k + 1, rfl, by first | rfl | (simp; done) | (rw [hwk]; rfl), ⟨by have := HK.out; omega⟩, ⟨fun j y hj hy => by
            rcases Nat.lt_or_ge j k with q | q
            · exact HP.out j y q hy
            · have e : j = k := by omega
              subst e
              rw [HX.out] at hy
              cases hy
              exact isN_iff.2 (by have := H0.out; have := H1.out; omega)⟩, HBW⟩
/-- a method value: the roads from each node -/
theorem asks_out {w : World} {base g : Nat} {ps : List Roads.Pt} {out : List (List Rd)} {F : Nat → Prop} (h : NetS w base g ps out F) : Asks w out.length 13 #[.pointer (some ⟨g, 0, none⟩)] #[] (outOf out) where
  fn := ⟨_, Try.func13, by kernel_rfl, by kernel_rfl⟩
  calls W hW v h0 hn := by
    refine ((h.below hW).out v).mono ?_
    rintro e w' ⟨A, c, rfl, hr, hb⟩
    obtain ⟨_, hlc, hC⟩ := Kd.R_reads' hr
    refine ⟨A, c, rfl, hC, hlc, hb, fun a ha => ?_⟩
    subst ha
    have h1 := Kd.R_base hr a.block (by simp [Value.ownBlock])
    have h2 := Kd.R_lt hr a.block (by simp [Value.ownBlock])
    exact ⟨Or.inr h1, h2⟩
  net := net_of h.good rfl
  len v _ _ := out_len h.good rfl (by have := h.len; omega) v
set_option maxHeartbeats 3200000 in
theorem from_none (v : Int) (w : World) : Calls Try.prog 11 #[.pointer none, .int .i64 v] w fun e w' => e = .returned (.tuple #[.slice none 0 0, .int .i64 2]) ∧ Below w.heap.size w w' := by
  have HB : Aside0 (Below w.heap.size w (w.alloc (.cells #[.int .i64 v] 3))) := ⟨below_alloc (Below.refl _ _) _⟩
  go_enter Try.func11, Try.ntmps11
  go_wp2_with fail
  refine (check_none _ _ _ _).mono ?_
  rintro e w1 ⟨rfl, hw1⟩
  have HB1 : Aside0 (Below w.heap.size w w1) := ⟨by rw [hw1]; exact HB.out⟩
  clear hw1
  go_wp2
  refine bodyPost_ret (results_list (rs := [.tmp 4, .tmp 5]) rfl (by simp) (.tmp (.tmp .nil))) rfl ?_
  exact ⟨rfl, HB1.out⟩
set_option maxHeartbeats 3200000 in
theorem from_dead (g : Nat) (v0 v1 : Value) (v : Int) (w : World) (h : w.heap[g]? = some (.cells #[v0, v1, .map none] 72 (0, 0))) : Calls Try.prog 11 #[.pointer (some ⟨g, 0, none⟩), .int .i64 v] w fun e w' => e = .returned (.tuple #[.slice none 0 0, .int .i64 2]) ∧ Below w.heap.size w w' := by
  have HB : Aside0 (Below w.heap.size w (w.alloc (.cells #[.int .i64 v] 3))) := ⟨below_alloc (Below.refl _ _) _⟩
  have H := Aside0.mk ((HB.out.block _ (blk_lt h)).trans h)
  clear h
  go_enter Try.func11, Try.ntmps11
  go_wp2_with fail
  refine (check_dead g v0 v1 _ _ _ _ H.out).mono ?_
  rintro e w1 ⟨rfl, hw1⟩
  have HB1 : Aside0 (Below w.heap.size w w1) := ⟨by rw [hw1]; exact HB.out⟩
  clear hw1
  go_wp2
  refine bodyPost_ret (results_list (rs := [.tmp 4, .tmp 5]) rfl (by simp) (.tmp (.tmp .nil))) rfl ?_
  exact ⟨rfl, HB1.out⟩
theorem checkP_one (n : Nat) (v : Int) : checkP n [v] = if isN n v = true then 0 else 131 := by
  unfold checkP
  simp
set_option maxHeartbeats 6400000 in
set_option maxRecDepth 100000 in
theorem from_calls {w : World} {base g : Nat} {ps : List Roads.Pt} {out : List (List Rd)} {F : Nat → Prop} (h : NetS w base g ps out F) (hb : base ≤ w.heap.size) (v : Int) :
    Calls Try.prog 11 #[.pointer (some ⟨g, 0, none⟩), .int .i64 v] w fun e w' => Below w.heap.size w w' ∧ ((isN out.length v = false ∧ e = .returned (.tuple #[.slice none 0 0, .int .i64 131])) ∨ (isN out.length v = true ∧ ∃ (A : Option Addr) (cc : Nat) (c : List Int), e = .returned (.tuple #[.slice A out.length cc, .int .i64 0]) ∧ kInt.R 3 w' w.heap.size (fun _ => True) (.slice A out.length cc) c ∧ Dist out.length (outOf out) v c)) := by
  have H := Aside0.mk h
  have HB := Aside0.mk hb
  have HL := Aside0.mk h.len
  obtain ⟨wb, hwb⟩ : ∃ wb, wb = w.alloc (.cells #[.int .i64 v] 3) := ⟨_, rfl⟩
  have HBB : Aside0 (Below w.heap.size w wb) := ⟨by rw [hwb]; exact below_alloc (Below.refl _ _) _⟩
  have HX : Aside0 (wb.heap[w.heap.size]? = some (.cells #[.int .i64 v] 3 (0, 0))) := ⟨by rw [hwb]; exact blk_new _ _⟩
  have HS := Aside0.mk (H.out.below HBB.out)
  have HC : Aside0 (Kd.C kInt wb (some ⟨w.heap.size, 0, none⟩) 1 [v]) := ⟨c_of_box (cs := [v]) HX.out rfl (by simp)⟩
  have HCH := Aside0.mk (check_calls HS.out (Nat.le_trans hb HBB.out.size) (some ⟨w.heap.size, 0, none⟩) 1 [v] HC.out (by simp))
  have HWB := Aside0.mk hwb
  rw [hwb] at HCH
  clear h hb hwb
  go_enter Try.func11, Try.ntmps11
  go_wp2_with fail
  refine HCH.out.mono ?_
  rintro e w1 ⟨rfl, hb1⟩
  have HB1 : Aside0 (Below w.heap.size w w1) := ⟨below_step HBB.out (by rw [HWB.out]; exact hb1)⟩
  have HS1 := Aside0.mk (H.out.below HB1.out)
  rw [checkP_one]
  clear hb1
  cases hv : isN out.length v with
  | false =>
    have HV := Aside0.mk hv
    clear hv
    rw [if_neg (by simp)]
    go_wp2
    refine bodyPost_ret (results_list (rs := [.tmp 4, .tmp 5]) rfl (by simp) (.tmp (.tmp .nil))) rfl ?_
    exact ⟨HB1.out, Or.inl ⟨HV.out, rfl⟩⟩
  | true =>
    have HV := Aside0.mk hv
    clear hv
    rw [if_pos rfl]
    go_wp2_with fail
    refine HS1.out.nodes.mono ?_
    rintro e w2 ⟨rfl, hw1⟩
    have hw2 := hw1.symm
    clear hw1
    subst hw2
    go_wp2_with fail
    refine (costs_calls out.length v 13 #[.pointer (some ⟨g, 0, none⟩)] #[] (outOf out) w1 (asks_out HS1.out) (by have := HL.out; omega) (isN_iff.1 HV.out)).mono ?_
    rintro e w3 ⟨A, cc, ov, c, o, rfl, hc, ho, hd, hord, hb3⟩
    have HC3 := Aside0.mk (Kd.R_lower hc HB1.out.size)
    have HD3 := Aside0.mk hd
    have HB3 := Aside0.mk (below_step HB1.out hb3)
    clear hc ho hd hord hb3
    go_wp2
    refine bodyPost_ret (results_list (rs := [.tmp 4, .tmp 5]) rfl (by simp) (.tmp (.tmp .nil))) rfl ?_
    exact ⟨HB3.out, Or.inr ⟨HV.out, A, cc, c, rfl, HC3.out, HD3.out⟩⟩
end Go.Proofs.Ytgbfhhmmkhjhhaa.Paths
namespace Go.Proofs.Ytgbfhhmmkhjhhaa.Paths
open Go.RowKit Go.Proofs.YtgbfhhmmkhjhhaaW.PrintWords Go.Proofs.YtgbfhhmmkhjhhaaW.PrintLast Go.Proofs.YtgbfhhmmkhjhhaaW.PrintMore Go.Proofs.Ytgbfhhmmkhjhhaa.HeapW Go.Proofs.Ytgbfhhmmkhjhhaa.HeapP Go.Proofs.Ytgbfhhmmkhjhhaa.MapAt Go.Proofs.Ytgbfhhmmkhjhhaa.Dij
open Go.Proofs.Ytgbfhhmmkhjhhaa.HeapIR hiding It Pt
open Go.Proofs.Ytgbfhhmmkhjhhaa.Roads (flat_keep R_ty Flat kRd rd_at NetS outOf isN isN_iff isN_no)
set_option linter.unusedVariables false
set_option linter.unusedSimpArgs false
theorem cut_cap (A : Option Addr) (n c j : Nat) (hj : j ≤ n) (hc : n ≤ c) : ∀ W : World, (Instr.slice 32 (.slice A n c) none (some (.int .i64 (j : Int))) (some (.int .i64 (j : Int)))).run Try.prog W = .ok (.slice A j j) W := by
  intro W
  obtain ⟨i0, hi, hs⟩ := Option.map_eq_some_iff.1 infoInt
  have ht : Try.prog.underlying 32 = some (.slice 3) := Try.underlying32
  have hel : Try.prog.elem 32 = 3 := by simp [Program.elem, ht]
  have hu : Try.prog.underlying 32 = some (.slice (Try.prog.elem 32)) := by rw [hel]; exact ht
  have ha : (A.map fun x => x.add 0) = A := by cases A <;> simp [Addr.add]
  rw [run_slice_hm W 32 A n c hu .i64 .i64 (j : Int) (j : Int) (by omega) (Int.le_refl _) (by omega), hel]
  simp [sizeOf, typeInfo, hi, sliced, Result.andThen, ha]
def withinP (co o : List Int) (most : Int) : List Int := o.takeWhile (fun v => decide (cv co v ≤ most))
theorem take_while {p : Int → Bool} {o : List Int} {k : Nat} (h1 : ∀ j x, j < k → o[j]? = some x → p x = true) (h2 : ∀ x, o[k]? = some x → p x = false) (hk : k ≤ o.length) : o.takeWhile p = o.take k := by
  induction o generalizing k with
  | nil => simp
  | cons a r ih =>
    cases k with
    | zero => rw [List.takeWhile_cons, if_neg (by rw [h2 a rfl]; simp), List.take_zero]
    | succ k => rw [List.takeWhile_cons, if_pos (h1 0 a (by omega) rfl), List.take_succ_cons, ih (k := k) (fun j x hj hx => h1 (j + 1) x (by omega) (by simpa using hx)) (fun x hx => h2 x (by simpa using hx)) (by simpa using hk)]
theorem ord_nodup {n : Nat} {c o : List Int} (h : Ord n c o) : o.Nodup := h.ord.imp (by
  rintro u v e rfl
  rw [lex_iff] at e
  omega)
theorem ord_le {n : Nat} {c o : List Int} (h : Ord n c o) : o.length ≤ n := nodup_le (ord_nodup h) (fun v hv => ⟨((h.mem v).1 hv).1, ((h.mem v).1 hv).2.1⟩)
set_option maxHeartbeats 3200000 in
theorem within_none (v most : Int) (w : World) : Calls Try.prog 20 #[.pointer none, .int .i64 v, .int .i64 most] w fun e w' => e = .returned (.tuple #[.slice none 0 0, .int .i64 2]) ∧ Below w.heap.size w w' := by
  have HB : Aside0 (Below w.heap.size w (w.alloc (.cells #[.int .i64 v] 3))) := ⟨below_alloc (Below.refl _ _) _⟩
  go_enter Try.func20, Try.ntmps20
  go_wp2_with fail
  refine (check_none _ _ _ _).mono ?_
  rintro e w1 ⟨rfl, hw1⟩
  have HB1 : Aside0 (Below w.heap.size w w1) := ⟨by rw [hw1]; exact HB.out⟩
  clear hw1
  go_wp2
  refine bodyPost_ret (results_list (rs := [.tmp 6, .tmp 7]) rfl (by simp) (.tmp (.tmp .nil))) rfl ?_
  exact ⟨rfl, HB1.out⟩
set_option maxHeartbeats 6400000 in
set_option maxRecDepth 100000 in
theorem within_calls {w : World} {base g : Nat} {ps : List Roads.Pt} {out : List (List Rd)} {F : Nat → Prop} (h : NetS w base g ps out F) (hb : base ≤ w.heap.size) (v most : Int) :
    Calls Try.prog 20 #[.pointer (some ⟨g, 0, none⟩), .int .i64 v, .int .i64 most] w fun e w' => Below w.heap.size w w' ∧ ((isN out.length v = false ∧ e = .returned (.tuple #[.slice none 0 0, .int .i64 131])) ∨ (isN out.length v = true ∧ ∃ (A : Option Addr) (cc : Nat) (c o : List Int), e = .returned (.tuple #[.slice A (withinP c o most).length cc, .int .i64 0]) ∧ Kd.C kInt w' A (withinP c o most).length (withinP c o most) ∧ (withinP c o most).length ≤ cc ∧ (∀ a, A = some a → w.heap.size ≤ a.block ∧ a.off = 0 ∧ a.spot = none ∧ ∃ cells, w'.heap[a.block]? = some (.cells cells 3 (0, 0)) ∧ cc ≤ cells.size) ∧ Dist out.length (outOf out) v c ∧ Ord out.length c o)) := by
  have H := Aside0.mk h
  have HB := Aside0.mk hb
  have HL := Aside0.mk h.len
  obtain ⟨wb, hwb⟩ : ∃ wb, wb = w.alloc (.cells #[.int .i64 v] 3) := ⟨_, rfl⟩
  have HBB : Aside0 (Below w.heap.size w wb) := ⟨by rw [hwb]; exact below_alloc (Below.refl _ _) _⟩
  have HX : Aside0 (wb.heap[w.heap.size]? = some (.cells #[.int .i64 v] 3 (0, 0))) := ⟨by rw [hwb]; exact blk_new _ _⟩
  have HS := Aside0.mk (H.out.below HBB.out)
  have HC : Aside0 (Kd.C kInt wb (some ⟨w.heap.size, 0, none⟩) 1 [v]) := ⟨c_of_box (cs := [v]) HX.out rfl (by simp)⟩
  have HCH := Aside0.mk (check_calls HS.out (Nat.le_trans hb HBB.out.size) (some ⟨w.heap.size, 0, none⟩) 1 [v] HC.out (by simp))
  have HWB := Aside0.mk hwb
  rw [hwb] at HCH
  clear h hb hwb
  go_enter Try.func20, Try.ntmps20
  go_wp2_with fail
  refine HCH.out.mono ?_
  rintro e w1 ⟨rfl, hb1⟩
  have HB1 : Aside0 (Below w.heap.size w w1) := ⟨below_step HBB.out (by rw [HWB.out]; exact hb1)⟩
  have HS1 := Aside0.mk (H.out.below HB1.out)
  rw [checkP_one]
  clear hb1
  cases hv : isN out.length v with
  | false =>
    have HV := Aside0.mk hv
    clear hv
    rw [if_neg (by simp)]
    go_wp2
    refine bodyPost_ret (results_list (rs := [.tmp 6, .tmp 7]) rfl (by simp) (.tmp (.tmp .nil))) rfl ?_
    exact ⟨HB1.out, Or.inl ⟨HV.out, rfl⟩⟩
  | true =>
    have HV := Aside0.mk hv
    clear hv
    rw [if_pos rfl]
    go_wp2_with fail
    refine HS1.out.nodes.mono ?_
    rintro e w2 ⟨rfl, hw1⟩
    have hw2 := hw1.symm
    clear hw1
    subst hw2
    go_wp2_with fail
    refine (costs_calls out.length v 13 #[.pointer (some ⟨g, 0, none⟩)] #[] (outOf out) w1 (asks_out HS1.out) (by have := HL.out; omega) (isN_iff.1 HV.out)).mono ?_
    rintro e w3 ⟨A, cc, ov, c, o, rfl, hc, ho, hd, hord, hb3⟩
    have HCA := Aside0.mk hc
    have HRO := Aside0.mk (Kd.R_lower ho HB1.out.size)
    have HD3 := Aside0.mk (And.intro hd hord)
    have HB3 := Aside0.mk (below_step HB1.out hb3)
    obtain ⟨oA, oc, hov, hoc, hoC⟩ := Kd.R_reads ho
    subst hov
    have HOC := Aside0.mk hoC
    have HOL := Aside0.mk (And.intro (ord_le hord) hoc)
    obtain ⟨L, hL⟩ : ∃ L, L = o.length := ⟨_, rfl⟩
    have HLL := Aside0.mk hL
    have HFAR : Aside0 (∀ cc', cc' ≤ oc → ∀ a, oA = some a → w.heap.size ≤ a.block ∧ a.off = 0 ∧ a.spot = none ∧ ∃ cells, w3.heap[a.block]? = some (.cells cells 3 (0, 0)) ∧ cc' ≤ cells.size) := ⟨fun cc' hcc a ha => by
      obtain ⟨_, inner, hown, _⟩ := HRO.out
      rcases hown.2 with ⟨e, _⟩ | ⟨g', cap', cur, e, hgb, hh, hnc, hcm, hcz, _⟩
      · simp only [Value.slice.injEq] at e
        rw [e.1] at ha
        cases ha
      · rw [ha] at e
        simp only [Value.slice.injEq, Option.some.injEq] at e
        obtain ⟨rfl, -, rfl⟩ := e
        exact ⟨hgb, rfl, rfl, cur, hh, by rw [hcz]; show cc' ≤ oc * 1; omega⟩⟩
    rw [← hL]
    clear hc ho hd hord hb3 hoc hoC hL
    go_wp2_with ((with_reducible refine gate_upon ?_); go_simp)
    go_loopg [6, 7, 31] L (fun kq v6 v7 v31 w' => ∃ k : Nat, v6 = .slice none 0 0 ∧ v7 = .int .i64 0 ∧ v31 = .int .i64 k ∧ w' = w3 ∧ Aside0 (k + kq = L) ∧ Aside0 (∀ j x, j < k → o[j]? = some x → cv c x ≤ most))
    case atStart => exact ⟨0, rfl, rfl, rfl, rfl, ⟨by omega⟩, ⟨fun j x hj => absurd hj (Nat.not_lt_zero _)⟩⟩
    case round =>
     as_aux_lemma =>
      obtain ⟨k, rfl, rfl, rfl, hwr, HK, HP⟩ := hrel
      have hwr2 := hwr.symm
      clear hwr
      subst hwr2
      cases gk with
      | zero =>
        have hk : L = k := by have := HK.out; omega
        subst hk
        have hgt : decide (L < L) = false := decide_eq_false (by omega)
        go_wp2
        refine bodyPost_ret (results_list (rs := [.tmp 6, .tmp 7]) rfl (by simp) (.tmp (.tmp .nil))) rfl ?_
        have e : withinP c o most = o := by
          unfold withinP
          rw [take_while (k := L) (fun j x hj hx => by simpa using HP.out j x hj hx) (fun x hx => absurd (List.getElem?_eq_some_iff.1 hx).1 (by rw [← HLL.out]; omega)) (by rw [← HLL.out]; exact Nat.le_refl _), HLL.out, List.take_length]
        refine ⟨HB3.out, Or.inr ⟨HV.out, oA, oc, c, o, ?_, ?_, ?_, HFAR.out oc (Nat.le_refl _), HD3.out.1, HD3.out.2⟩⟩
        · rw [e, ← HLL.out]; rfl
        · rw [e]; exact HOC.out
        · rw [e]; exact HOL.out.2
      | succ gk2 =>
        have hkl : k < L := by have := HK.out; omega
        have hlt : decide (k < L) = true := decide_eq_true hkl
        have hltI : (k : Int) < L := by omega
        obtain ⟨a, ha, hcx⟩ := int_at HOC.out (by rw [← HLL.out]; exact hkl) rfl
        have hq := hcx w3 (Below.refl _ _)
        obtain ⟨x, hx⟩ : ∃ x, x = o[k]'(by rw [← HLL.out]; exact hkl) := ⟨_, rfl⟩
        have HX : Aside0 (o[k]? = some x) := ⟨by rw [hx]; exact List.getElem?_eq_getElem _⟩
        rw [← hx] at hq
        subst ha
        have hm := (HD3.out.2.mem x).1 (List.mem_of_getElem? HX.out)
        have hx0 := hm.1
        have hxn := hm.2.1
        obtain ⟨gc, cap, hA, hg1, hg2, _⟩ := Kd.R_form HCA.out (by rw [HD3.out.1.len]; omega)
        rw [HD3.out.1.len] at hA
        simp only [Value.slice.injEq] at hA
        obtain ⟨rfl, -, rfl⟩ := hA
        have hcz := (Kd.R_celln (n := out.length) (d := (-1 : Int)) HCA.out x hx0 hxn).1
        obtain ⟨z, hz⟩ : ∃ z, z = cv c x := ⟨_, rfl⟩
        have HZ := Aside0.mk hz
        have hcz2 : w3.cell? ⟨gc, x.toNat, none⟩ = some (.int .i64 z) := by rw [hz]; exact hcz
        have hcut := cut_cap (some a) L oc k (by omega) (by have := HOL.out; have := HLL.out; omega)
        have HWK : Aside0 (wrap64 ((k : Int) + 1) = (k : Int) + 1) := ⟨by unfold wrap64; have := HK.out; have := HOL.out; have := HLL.out; have := HL.out; omega⟩
        clear hx hcx hcz hm hz
        by_cases h0 : most < z
        · as_aux_lemma =>
          have hd : decide (most < z) = true := decide_eq_true h0
          have H0 := Aside0.mk h0
          clear h0
          go_wp2
          refine bodyPost_ret (results_list (rs := [.tmp 6, .tmp 7]) rfl (by simp) (.tmp (.tmp .nil))) rfl ?_
          have hkL : k ≤ o.length := by rw [← HLL.out]; omega
          have e : withinP c o most = o.take k := by
            unfold withinP
            refine take_while (fun j x hj hx => by simpa using HP.out j x hj hx) (fun y hy => ?_) hkL
            rw [HX.out] at hy
            cases hy
            rw [decide_eq_false_iff_not, ← HZ.out]
            have := H0.out
            omega
          have el : (o.take k).length = k := by rw [List.length_take]; omega
          refine ⟨HB3.out, Or.inr ⟨HV.out, some a, k, c, o, ?_, ?_, ?_, HFAR.out k (by have := HOL.out; omega), HD3.out.1, HD3.out.2⟩⟩
          · rw [e, el]; rfl
          · rw [e]
            exact Kd.C_take HOC.out hkL
          · rw [e, el]
            exact Nat.le_refl _
        · have hd : decide (most < z) = false := decide_eq_false h0
          have H0 := Aside0.mk h0
          clear h0
          have hwk := HWK.out
          go_wp2
          go_roundg gk2
          case measure => omega
          case rel => exact ⟨k + 1, rfl, rfl, by first | rfl | (simp; done) | (rw [hwk]; rfl), rfl, ⟨by have := HK.out; omega⟩, ⟨fun j y hj hy => by
            rcases Nat.lt_or_ge j k with q | q
            · exact HP.out j y q hy
            · have e : j = k := by omega
              subst e
              rw [HX.out] at hy
              cases hy
              have := H0.out
              have := HZ.out
              omega⟩⟩
end Go.Proofs.Ytgbfhhmmkhjhhaa.Paths
namespace Go.Proofs.Ytgbfhhmmkhjhhaa.Paths
open Go.RowKit Go.Proofs.YtgbfhhmmkhjhhaaW.PrintWords Go.Proofs.YtgbfhhmmkhjhhaaW.PrintLast Go.Proofs.YtgbfhhmmkhjhhaaW.PrintMore Go.Proofs.Ytgbfhhmmkhjhhaa.HeapW Go.Proofs.Ytgbfhhmmkhjhhaa.HeapP Go.Proofs.Ytgbfhhmmkhjhhaa.MapAt Go.Proofs.Ytgbfhhmmkhjhhaa.Dij
open Go.Proofs.Ytgbfhhmmkhjhhaa.HeapIR hiding It Pt
open Go.Proofs.Ytgbfhhmmkhjhhaa.Roads (flat_keep R_ty Flat kRd rd_at NetS outOf isN isN_iff isN_no)
set_option linter.unusedVariables false
set_option linter.unusedSimpArgs false
set_option maxHeartbeats 6400000 in
set_option maxRecDepth 100000 in
theorem table_gone {w : World} {base g : Nat} {ps : List Roads.Pt} {out : List (List Rd)} {F : Nat → Prop} (h : NetS w base g ps out F) (hb : base ≤ w.heap.size) (A : Option Addr) (c : Nat) (l : List Int) (hC : Kd.C kInt w A l.length l) (hll : l.length ≤ 1000000000000) (hg : checkP out.length l = 131) :
    Calls Try.prog 19 #[.pointer (some ⟨g, 0, none⟩), .slice A l.length c] w fun e w' => Below w.heap.size w w' ∧ e = .returned (.tuple #[.slice none 0 0, .int .i64 131]) := by
  have HCH := Aside0.mk (check_calls h hb A c l hC hll)
  have HG := Aside0.mk hg
  clear h hb hC hll hg
  go_enter Try.func19, Try.ntmps19
  go_wp2_with fail
  refine HCH.out.mono ?_
  rintro e w1 ⟨rfl, hb1⟩
  have HB1 := Aside0.mk hb1
  rw [HG.out]
  clear hb1
  go_wp2
  refine bodyPost_ret (results_list (rs := [.tmp 4, .tmp 5]) rfl (by simp) (.tmp (.tmp .nil))) rfl ?_
  exact ⟨HB1.out, rfl⟩
end Go.Proofs.Ytgbfhhmmkhjhhaa.Paths
