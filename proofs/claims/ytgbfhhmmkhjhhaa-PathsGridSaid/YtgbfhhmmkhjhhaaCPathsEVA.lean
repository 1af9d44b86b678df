/- Paths: SameInts. Conditions: those that stand in each theorem. Written by wip/gen/netsame.py. -/
import Derived.Test.YtgbfhhmmkhjhhaaCPathsW
import Derived.Test.YtgbfhhmmkhjhhaaCSl
namespace Go.Proofs.Ytgbfhhmmkhjhhaa.Paths
open Go.RowKit Go.Proofs.YtgbfhhmmkhjhhaaW.PrintWords Go.Proofs.YtgbfhhmmkhjhhaaW.PrintLast Go.Proofs.YtgbfhhmmkhjhhaaW.PrintMore Go.Proofs.Ytgbfhhmmkhjhhaa.HeapW Go.Proofs.Ytgbfhhmmkhjhhaa.HeapP Go.Proofs.Ytgbfhhmmkhjhhaa.MapAt Go.Proofs.Ytgbfhhmmkhjhhaa.Dij
open Go.Proofs.Ytgbfhhmmkhjhhaa.HeapIR hiding It Pt kIt_K infoZ reps_single
set_option linter.unusedVariables false
set_option linter.unusedSimpArgs false
def same.T6 : Bool × List (List Nat × List Nat) := (true, [([], []), ([], []), ([0, 1], [0, 1]), ([2], [2]), ([], []), ([], []), ([4, 5], [4, 5]), ([6], [6]), ([3, 7], [3, 7])])
def same.B6 : List Nat := [0, 0, 3, 7, 0, 0, 48, 112, 255]
theorem same.tab6 : rtab .any (opsOf Try.f16 6) = same.T6 := by kernel_rfl
theorem same.bits6 : waitsOk same.T6.2 same.B6 = true := by kernel_rfl
set_option maxHeartbeats 6400000 in
set_option maxRecDepth 100000 in
theorem same_calls (A B : Option Addr) (ca cb : Nat) (l m : List Int) (w : World) (hA : Kd.C kInt w A l.length l) (hB : Kd.C kInt w B m.length m) (hl : l.length ≤ 1000000000000) :
    Calls Try.prog 16 #[.slice A l.length ca, .slice B m.length cb] w fun e w' => e = .returned (.bool (decide (l = m))) ∧ Below w.heap.size w w' := by
  have HA := Aside0.mk hA
  have HB := Aside0.mk hB
  have HLL := Aside0.mk hl
  clear hA hB hl
  go_enter Try.func16, Try.ntmps16
  by_cases hne : l.length = m.length
  · obtain ⟨L, hL⟩ : ∃ L, L = l.length := ⟨_, rfl⟩
    have HL := Aside0.mk (And.intro hL (hL.trans hne))
    have hd : ((L : Int) == (L : Int)) = true := by simp
    have hd2 : ((L : Int) != (L : Int)) = false := by simp
    rw [← hL] at hne ⊢
    rw [← hne]
    clear hL hne
    go_wp2_with ((with_reducible refine gate_upon ?_); go_simp)
    go_loopg [4, 5] L (fun kq v4 v5 w' => ∃ k : Nat, v4 = .bool false ∧ v5 = .int .i64 k ∧ Aside0 (k + kq = L) ∧ Aside0 (∀ j, j < k → l[j]? = m[j]?) ∧ Aside0 (Below w.heap.size w w'))
    case atStart => exact ⟨0, rfl, rfl, ⟨by omega⟩, ⟨fun j hj => absurd hj (Nat.not_lt_zero _)⟩, ⟨Below.refl _ _⟩⟩
    case round =>
      obtain ⟨k, rfl, rfl, HK, HP, HBW⟩ := hrel
      cases gk with
      | zero =>
        have hk : L = k := by have := HK.out; omega
        subst hk
        have hgt : decide (L < L) = false := decide_eq_false (by omega)
        go_wp2_with ((with_reducible refine gate_upon ?_); go_simp)
        go_ret
        refine ⟨?_, HBW.out⟩
        have e : l = m := by
          apply List.ext_getElem?
          intro j
          rcases Nat.lt_or_ge j L with q | q
          · exact HP.out j q
          · rw [List.getElem?_eq_none (by have := HL.out; omega), List.getElem?_eq_none (by have := HL.out; omega)]
        rw [decide_eq_true e]
        rfl
      | succ gk2 =>
        have hkl : k < L := by have := HK.out; omega
        have hlt : decide (k < L) = true := decide_eq_true hkl
        have hltI : (k : Int) < L := by omega
        obtain ⟨a, ha, hca⟩ := int_at (l := l) (j := k) HA.out (by have := HL.out; omega) rfl
        obtain ⟨b, hb, hcb⟩ := int_at (l := m) (j := k) HB.out (by have := HL.out; omega) rfl
        have hqa := hca wr HBW.out
        have hqb := hcb wr HBW.out
        obtain ⟨x, hx⟩ : ∃ x, x = l[k]'(by have := HL.out; omega) := ⟨_, rfl⟩
        obtain ⟨y, hy⟩ : ∃ y, y = m[k]'(by have := HL.out; omega) := ⟨_, rfl⟩
        have HX : Aside0 (l[k]? = some x ∧ m[k]? = some y) := ⟨by rw [hx, hy]; exact ⟨List.getElem?_eq_getElem _, List.getElem?_eq_getElem _⟩⟩
        rw [← hx] at hqa
        rw [← hy] at hqb
        have HK1 : Aside0 (k + 1 + gk2 = L) := ⟨by have := HK.out; omega⟩
        have HWK : Aside0 (wrap64 ((k : Int) + 1) = (k : Int) + 1) := ⟨by unfold wrap64; have := HK.out; have := HLL.out; have := HL.out; omega⟩
        subst ha
        subst hb
        clear hx hy hca hcb
        by_cases h0 : x = y
        · have h1 : (x == y) = true := by rw [beq_iff_eq]; exact h0
          have h2 : (x != y) = false := by rw [bne, h1]; rfl
          have H0 := Aside0.mk h0
          clear h0
          go_wp2_with ((with_reducible refine gate_upon ?_); go_simp)
          refine start_ (n := 9) (S := fun w' => w'.cell? (a.add k) = some (.int .i64 x) ∧ w'.cell? (b.add k) = some (.int .i64 y)) (ds := []) #[ff,ff,ff,ff,ff,ff,ff,ff,ff] (by kernel_rfl) rfl rfl ⟨hqa, hqb⟩ (fun hHeld => ?_)
          refine with_tabW same.tab6 same.bits6 (fun HT_ HW_ => ?_)
          refine pure_ (i := 0) (N := some 17) (v := ?_) (a' := ?_) #[tt,ff,ff,ff,ff,ff,ff,ff,ff] rfl rfl (any_of HT_.out (by kernel_rfl)) (fun _ _ _ h => h) (Or.inl ⟨by rfl, ?_⟩) ?_ ?_
          rotate_left; exact slv; rotate_left; exact sla
          refine pure_ (i := 1) (N := some 18) (v := ?_) (a' := ?_) #[tt,tt,ff,ff,ff,ff,ff,ff,ff] rfl rfl (any_of HT_.out (by kernel_rfl)) (fun _ _ _ h => h) (Or.inl ⟨by rfl, ?_⟩) ?_ ?_
          rotate_left; exact slv; rotate_left; exact sla
          refine pure_ (i := 2) (N := some 19) (v := ?_) (a' := ?_) #[tt,tt,tt,ff,ff,ff,ff,ff,ff] rfl rfl (any_of HT_.out (by kernel_rfl)) (fun _ _ _ h => h) (Or.inl ⟨by rfl, ?_⟩) ?_ ?_
          rotate_left; exact slv; rotate_left; exact sla
          refine pure_ (i := 4) (N := some 21) (v := ?_) (a' := ?_) #[tt,tt,tt,ff,tt,ff,ff,ff,ff] rfl rfl (any_of HT_.out (by kernel_rfl)) (fun _ _ _ h => h) (Or.inl ⟨by rfl, ?_⟩) ?_ ?_
          rotate_left; exact slv; rotate_left; exact sla
          refine pure_ (i := 5) (N := some 22) (v := ?_) (a' := ?_) #[tt,tt,tt,ff,tt,tt,ff,ff,ff] rfl rfl (any_of HT_.out (by kernel_rfl)) (fun _ _ _ h => h) (Or.inl ⟨by rfl, ?_⟩) ?_ ?_
          rotate_left; exact slv; rotate_left; exact sla
          refine pure_ (i := 6) (N := some 23) (v := ?_) (a' := ?_) #[tt,tt,tt,ff,tt,tt,tt,ff,ff] rfl rfl (any_of HT_.out (by kernel_rfl)) (fun _ _ _ h => h) (Or.inl ⟨by rfl, ?_⟩) ?_ ?_
          rotate_left; exact slv; rotate_left; exact sla
          refine take_ (i := 3) (N := some 20) (v := ?_) (a' := ?_) #[tt,tt,tt,tt,tt,tt,tt,ff,ff] rfl rfl (take_ofW HT_.out HW_.out (by kernel_rfl)) (fun _ _ _ h => h) (Or.inl ⟨by rfl, ?_⟩) hHeld ?_ ?_
          rotate_left; exact slt2; rotate_left; exact sla
          refine take_ (i := 7) (N := some 24) (v := ?_) (a' := ?_) #[tt,tt,tt,tt,tt,tt,tt,tt,ff] rfl rfl (take_ofW HT_.out HW_.out (by kernel_rfl)) (fun _ _ _ h => h) (Or.inl ⟨by rfl, ?_⟩) hHeld ?_ ?_
          rotate_left; exact slt2; rotate_left; exact sla
          refine pure_ (i := 8) (N := some 25) (v := ?_) (a' := ?_) #[tt,tt,tt,tt,tt,tt,tt,tt,tt] rfl rfl (any_of HT_.out (by kernel_rfl)) (fun _ _ _ h => h) (Or.inl ⟨by rfl, ?_⟩) ?_ ?_
          rotate_left; exact slv; rotate_left; exact sla
          refine done_ (done_of HT_.out (by kernel_rfl)) ?_
          try clear hHeld
          have hwk := HWK.out
          go_wp2
          go_roundg gk2
          case measure => first | exact Nat.lt_succ_self _ | omega
          case rel => exact ⟨k + 1, rfl, by first | rfl | (simp; done) | (rw [hwk]; rfl), HK1, ⟨fun j hj => by
            rcases Nat.lt_or_ge j k with q | q
            · exact HP.out j q
            · have e : j = k := Nat.le_antisymm (Nat.le_of_lt_succ hj) q
              rw [e, HX.out.1, HX.out.2, H0.out]⟩, ⟨below_drew HBW.out⟩⟩
        · have h1 : (x == y) = false := by rw [beq_eq_false_iff_ne]; exact h0
          have h2 : (x != y) = true := by rw [bne, h1]; rfl
          have H0 := Aside0.mk h0
          clear h0
          go_wp2_with ((with_reducible refine gate_upon ?_); go_simp)
          refine start_ (n := 9) (S := fun w' => w'.cell? (a.add k) = some (.int .i64 x) ∧ w'.cell? (b.add k) = some (.int .i64 y)) (ds := []) #[ff,ff,ff,ff,ff,ff,ff,ff,ff] (by kernel_rfl) rfl rfl ⟨hqa, hqb⟩ (fun hHeld => ?_)
          refine with_tabW same.tab6 same.bits6 (fun HT_ HW_ => ?_)
          refine pure_ (i := 0) (N := some 17) (v := ?_) (a' := ?_) #[tt,ff,ff,ff,ff,ff,ff,ff,ff] rfl rfl (any_of HT_.out (by kernel_rfl)) (fun _ _ _ h => h) (Or.inl ⟨by rfl, ?_⟩) ?_ ?_
          rotate_left; exact slv; rotate_left; exact sla
          refine pure_ (i := 1) (N := some 18) (v := ?_) (a' := ?_) #[tt,tt,ff,ff,ff,ff,ff,ff,ff] rfl rfl (any_of HT_.out (by kernel_rfl)) (fun _ _ _ h => h) (Or.inl ⟨by rfl, ?_⟩) ?_ ?_
          rotate_left; exact slv; rotate_left; exact sla
          refine pure_ (i := 2) (N := some 19) (v := ?_) (a' := ?_) #[tt,tt,tt,ff,ff,ff,ff,ff,ff] rfl rfl (any_of HT_.out (by kernel_rfl)) (fun _ _ _ h => h) (Or.inl ⟨by rfl, ?_⟩) ?_ ?_
          rotate_left; exact slv; rotate_left; exact sla
          refine pure_ (i := 4) (N := some 21) (v := ?_) (a' := ?_) #[tt,tt,tt,ff,tt,ff,ff,ff,ff] rfl rfl (any_of HT_.out (by kernel_rfl)) (fun _ _ _ h => h) (Or.inl ⟨by rfl, ?_⟩) ?_ ?_
          rotate_left; exact slv; rotate_left; exact sla
          refine pure_ (i := 5) (N := some 22) (v := ?_) (a' := ?_) #[tt,tt,tt,ff,tt,tt,ff,ff,ff] rfl rfl (any_of HT_.out (by kernel_rfl)) (fun _ _ _ h => h) (Or.inl ⟨by rfl, ?_⟩) ?_ ?_
          rotate_left; exact slv; rotate_left; exact sla
          refine pure_ (i := 6) (N := some 23) (v := ?_) (a' := ?_) #[tt,tt,tt,ff,tt,tt,tt,ff,ff] rfl rfl (any_of HT_.out (by kernel_rfl)) (fun _ _ _ h => h) (Or.inl ⟨by rfl, ?_⟩) ?_ ?_
          rotate_left; exact slv; rotate_left; exact sla
          refine take_ (i := 3) (N := some 20) (v := ?_) (a' := ?_) #[tt,tt,tt,tt,tt,tt,tt,ff,ff] rfl rfl (take_ofW HT_.out HW_.out (by kernel_rfl)) (fun _ _ _ h => h) (Or.inl ⟨by rfl, ?_⟩) hHeld ?_ ?_
          rotate_left; exact slt2; rotate_left; exact sla
          refine take_ (i := 7) (N := some 24) (v := ?_) (a' := ?_) #[tt,tt,tt,tt,tt,tt,tt,tt,ff] rfl rfl (take_ofW HT_.out HW_.out (by kernel_rfl)) (fun _ _ _ h => h) (Or.inl ⟨by rfl, ?_⟩) hHeld ?_ ?_
          rotate_left; exact slt2; rotate_left; exact sla
          refine pure_ (i := 8) (N := some 25) (v := ?_) (a' := ?_) #[tt,tt,tt,tt,tt,tt,tt,tt,tt] rfl rfl (any_of HT_.out (by kernel_rfl)) (fun _ _ _ h => h) (Or.inl ⟨by rfl, ?_⟩) ?_ ?_
          rotate_left; exact slv; rotate_left; exact sla
          refine done_ (done_of HT_.out (by kernel_rfl)) ?_
          try clear hHeld
          go_wp2
          go_ret
          refine ⟨?_, below_drew HBW.out⟩
          have e : ¬ l = m := fun e => by
            have h3 := HX.out.1
            rw [e, HX.out.2] at h3
            exact H0.out (Option.some.inj h3).symm
          rw [decide_eq_false e]
          rfl
  · have hd : ((l.length : Int) == (m.length : Int)) = false := by rw [beq_eq_false_iff_ne]; omega
    have hd2 : ((l.length : Int) != (m.length : Int)) = true := by rw [bne, hd]; rfl
    have HNE := Aside0.mk hne
    clear hne
    go_wp2_with ((with_reducible refine gate_upon ?_); go_simp)
    go_ret
    refine ⟨?_, Below.refl _ _⟩
    have e : ¬ l = m := fun e => HNE.out (by rw [e])
    rw [decide_eq_false e]
    rfl
end Go.Proofs.Ytgbfhhmmkhjhhaa.Paths
namespace Go.Proofs.Ytgbfhhmmkhjhhaa.Paths
open Go.RowKit Go.Proofs.YtgbfhhmmkhjhhaaW.PrintWords Go.Proofs.YtgbfhhmmkhjhhaaW.PrintLast Go.Proofs.YtgbfhhmmkhjhhaaW.PrintMore Go.Proofs.Ytgbfhhmmkhjhhaa.HeapW Go.Proofs.Ytgbfhhmmkhjhhaa.HeapP Go.Proofs.Ytgbfhhmmkhjhhaa.MapAt Go.Proofs.Ytgbfhhmmkhjhhaa.Dij
open Go.Proofs.Ytgbfhhmmkhjhhaa.HeapIR hiding It Pt kIt_K infoZ reps_single
open Go.Proofs.Ytgbfhhmmkhjhhaa.Roads (kRd rd_at NetS outOf isN isN_iff isN_no nodeP roadP okP)
set_option linter.unusedVariables false
set_option linter.unusedSimpArgs false
def ps5 (i : Nat) : List Roads.Pt := (List.range i).map (fun j : Nat => (((j : Nat) : Int), (0 : Int)))
def fiveR : List Rd := [(0, 1, 2), (0, 2, 1), (2, 1, 1), (1, 3, 5), (2, 3, 6), (3, 0, 1)]
def out5 : Nat → List (List Rd)
  | 0 => [[], [], [], [], []]
  | k + 1 => (roadP (out5 k) (fiveR.getD k (0, 0, 0)).1 (fiveR.getD k (0, 0, 0)).2.1 (fiveR.getD k (0, 0, 0)).2.2).2
theorem node5 : ∀ i, i < 5 → nodeP (ps5 i) (List.replicate i []) ((i : Int), 0) = (((i : Int), 0), ps5 (i + 1), List.replicate (i + 1) []) := by
  intro i hi
  have : i = 0 ∨ i = 1 ∨ i = 2 ∨ i = 3 ∨ i = 4 := by omega
  rcases this with rfl | rfl | rfl | rfl | rfl <;> decide +kernel
theorem okP_small {i : Nat} (h : i < 5) : okP ((i : Int), 0) := by
  have : i = 0 ∨ i = 1 ∨ i = 2 ∨ i = 3 ∨ i = 4 := by omega
  rcases this with rfl | rfl | rfl | rfl | rfl <;> exact ⟨by decide, by decide⟩
theorem out5_full : out5 6 = [[(0, 1, 2), (0, 2, 1)], [(1, 3, 5)], [(2, 1, 1), (2, 3, 6)], [(3, 0, 1)], []] := by decide +kernel
theorem kRd_mk (w : World) (base : Nat) (ok : Nat → Prop) (x : Rd) : kRd.M w base ok x [.int .i64 x.1, .int .i64 x.2.1, .int .i64 x.2.2] := ⟨[_], _, rfl, rfl, [_], [_], rfl, rfl, rfl⟩
theorem five_reps (w : World) (base : Nat) (ok : Nat → Prop) : Reps (kRd.M w base ok) 3 fiveR [.int .i64 0, .int .i64 1, .int .i64 2, .int .i64 0, .int .i64 2, .int .i64 1, .int .i64 2, .int .i64 1, .int .i64 1, .int .i64 1, .int .i64 3, .int .i64 5, .int .i64 2, .int .i64 3, .int .i64 6, .int .i64 3, .int .i64 0, .int .i64 1] :=
  ((((((Reps.none (kRd.M w base ok) 3).snoc (kRd_mk w base ok (0, 1, 2)) rfl).snoc (kRd_mk w base ok (0, 2, 1)) rfl).snoc (kRd_mk w base ok (2, 1, 1)) rfl).snoc (kRd_mk w base ok (1, 3, 5)) rfl).snoc (kRd_mk w base ok (2, 3, 6)) rfl).snoc (kRd_mk w base ok (3, 0, 1)) rfl
def five.T12 : Bool × List (List Nat × List Nat) := (true, [([], []), ([], []), ([], []), ([1, 2], [1, 2]), ([3], [3]), ([4], [4]), ([], []), ([], []), ([6, 7], [6, 7]), ([8], [8]), ([9], [9]), ([], []), ([], []), ([11, 12], [11, 12]), ([13], [13]), ([14], [14]), ([0, 5, 10, 15], [0, 5, 10, 15])])
def five.B12 : List Nat := [0, 0, 0, 6, 14, 30, 0, 0, 192, 448, 960, 0, 0, 6144, 14336, 30720, 65535]
theorem five.tab12 : rtab .any (opsOf Try.f18 12) = five.T12 := by kernel_rfl
theorem five.bits12 : waitsOk five.T12.2 five.B12 = true := by kernel_rfl
set_option maxHeartbeats 6400000 in
set_option maxRecDepth 100000 in
theorem five_calls (w : World) :
    Calls Try.prog 18 #[] w fun e w' => ∃ g F, e = .returned (.pointer (some ⟨g, 0, none⟩)) ∧ NetS w' w.heap.size g (ps5 5) (out5 6) F ∧ Below w.heap.size w w' := by
  have qe := eql_ptr
  go_enter Try.func18, Try.ntmps18
  go_wp2_with fail
  refine (Roads.new_net w).mono ?_
  rintro e w1 ⟨g, F0, rfl, hn, hb⟩
  have HN := Aside0.mk hn
  have HB := Aside0.mk hb
  clear hn hb
  go_wp2_with fail
  go_loopg [2] 5 (fun kq v2 w' => ∃ (i : Nat) (F : Nat → Prop), v2 = .int .i64 i ∧ Aside0 (i + kq = 5) ∧ Aside0 (NetS w' w.heap.size g (ps5 i) (List.replicate i []) F) ∧ Aside0 (Below w.heap.size w w'))
  case atStart => exact ⟨0, F0, rfl, ⟨by omega⟩, HN, HB⟩
  case round =>
    clear HN HB
    obtain ⟨i, F1, rfl, HI, HN, HB⟩ := hrel
    cases gk with
    | zero =>
      have hi : 5 = i := by have := HI.out; omega
      subst hi
      have hgt : decide (((5 : Nat) : Int) < 5) = false := by decide
      go_wp2_with (first | ((with_reducible refine gate_dst (N := 23) rfl ?_); refine Kd.R_lit kRd (w0 := w) w.heap.size 40 rfl (N := 23) rfl (xs := fiveR) (ok := fun _ => True) (okp := fun _ => True) (by first | (go_simp; done) | (go_simp; rfl)) (five_reps _ _ _) (fun _ hk => hk) trivial HB.out HB.out.size (by simp [fiveR]) ?_; intro v3 w3 ho hb3 hg3 hat; have HO := Aside0.mk ho; have HB3 := Aside0.mk hb3; have HG3 := Aside0.mk (And.intro hg3 hat); clear ho hb3 hg3 hat) | ((with_reducible refine gate_upon ?_); go_simp))
      obtain ⟨A3, c3, hv3⟩ := Kd.R_slice HO.out
      have h6 : fiveR.length = 6 := rfl
      rw [h6] at hv3
      subst hv3
      have HSE : Aside0 (Seen w3 A3 6 fiveR F1) := ⟨⟨(Kd.R_reads' HO.out).2.2, fun a ha => by
        subst ha
        have h1 := Kd.R_lt HO.out a.block (by simp [Value.ownBlock])
        obtain ⟨b, hb, hle⟩ := HG3.out.2
        have : a.block = b := by simpa [Value.ownBlock] using hb
        exact ⟨fun q => by have := (HN.out.ge _ q).2; omega, h1⟩⟩⟩
      have HN3 : Aside0 (NetS w3 w.heap.size g (ps5 5) (out5 0) F1) := ⟨HN.out.below ⟨HG3.out.1.os, HG3.out.1.tape, HG3.out.1.output, HG3.out.1.size, fun k hk => HG3.out.1.block k hk (by simp)⟩⟩
      clear h6 HO HG3 HN HB
      go_loopg [4] 6 (fun kq v4 w' => ∃ (k : Nat) (F : Nat → Prop), v4 = .int .i64 k ∧ Aside0 (k + kq = 6) ∧ Aside0 (NetS w' w.heap.size g (ps5 5) (out5 k) F) ∧ Aside0 (Seen w' A3 6 fiveR F) ∧ Aside0 (Below w.heap.size w w'))
      case atStart => exact ⟨0, F1, rfl, ⟨by omega⟩, HN3, HSE, HB3⟩
      case round =>
        clear HN3 HSE HB3
        obtain ⟨k, F2, rfl, HK, HN, HSE, HB⟩ := hrel
        cases gk with
        | zero =>
          have hk : 6 = k := by have := HK.out; omega
          subst hk
          have hgt : decide (((6 : Nat) : Int) < ((6 : Nat) : Int)) = false := by decide
          go_wp2_with ((with_reducible refine gate_upon ?_); go_simp)
          go_ret
          first | exact ⟨g, F2, rfl, HN.out, HB.out⟩ | exact ⟨g, rfl, ⟨F2, HN.out⟩, HB.out⟩ | exact ⟨g, ⟨rfl, ⟨F2, HN.out⟩, HB.out⟩⟩
        | succ gk2 =>
          have hk6 : k < 6 := by have := HK.out; omega
          have hlt : decide ((k : Int) < ((6 : Nat) : Int)) = true := decide_eq_true (by omega)
          have hlt2 : decide ((k : Int) < 6) = true := decide_eq_true (by omega)
          have hltI : (k : Int) < 6 := by omega
          obtain ⟨a, x, ha, hlx, hcx⟩ := rd_at HSE.out.c rfl (by simp [fiveR]; omega)
          obtain ⟨q0, q1, q2⟩ := hcx wr (Below.refl _ _)
          have HXK : Aside0 (fiveR.getD k (0, 0, 0) = x) := ⟨by rw [List.getD_eq_getElem?_getD, hlx]; rfl⟩
          have HSEA := Aside0.mk HSE.out
          subst ha
          clear hlx hcx HSE
          go_wp2_with ((with_reducible refine gate_upon ?_); go_simp)
          refine start_ (n := 17) (S := fun w' => w'.cell? (a.add (k * 3)) = some (.int .i64 x.1) ∧ w'.cell? ⟨(a.add (k * 3)).block, (a.add (k * 3)).off + 1, none⟩ = some (.int .i64 x.2.1) ∧ w'.cell? ⟨(a.add (k * 3)).block, (a.add (k * 3)).off + 2, none⟩ = some (.int .i64 x.2.2)) (ds := []) #[ff,ff,ff,ff,ff,ff,ff,ff,ff,ff,ff,ff,ff,ff,ff,ff,ff] (by kernel_rfl) rfl rfl ⟨q0, q1, q2⟩ (fun hHeld => ?_)
          refine with_tabW five.tab12 five.bits12 (fun HT_ HW_ => ?_)
          have HN4 := Aside0.mk (HN.out.below (below_drew1 (Below.refl wr.heap.size wr)))
          have HS4 := Aside0.mk (HSEA.out.step (below_drew1 (Below.refl wr.heap.size wr)))
          have HB4 : Aside0 (Below w.heap.size w wr.drew) := ⟨below_drew HB.out⟩
          have HK1 : Aside0 (k + 1 + gk2 = 6) := ⟨by have := HK.out; omega⟩
          clear HN HSEA HB q0 q1 q2
          generalize wr.drew = w4 at HN4 HS4 HB4 hHeld ⊢
          refine pure_ (i := 0) (N := some 30) (v := ?_) (a' := ?_) #[tt,ff,ff,ff,ff,ff,ff,ff,ff,ff,ff,ff,ff,ff,ff,ff,ff] rfl rfl (any_of HT_.out (by kernel_rfl)) (fun _ _ _ h => h) (Or.inl ⟨by rfl, ?_⟩) ?_ ?_
          rotate_left; exact slv; rotate_left; exact sla
          refine pure_ (i := 1) (N := some 31) (v := ?_) (a' := ?_) #[tt,tt,ff,ff,ff,ff,ff,ff,ff,ff,ff,ff,ff,ff,ff,ff,ff] rfl rfl (any_of HT_.out (by kernel_rfl)) (fun _ _ _ h => h) (Or.inl ⟨by rfl, ?_⟩) ?_ ?_
          rotate_left; exact slv; rotate_left; exact sla
          refine pure_ (i := 2) (N := some 32) (v := ?_) (a' := ?_) #[tt,tt,tt,ff,ff,ff,ff,ff,ff,ff,ff,ff,ff,ff,ff,ff,ff] rfl rfl (any_of HT_.out (by kernel_rfl)) (fun _ _ _ h => h) (Or.inl ⟨by rfl, ?_⟩) ?_ ?_
          rotate_left; exact slv; rotate_left; exact sla
          refine pure_ (i := 3) (N := some 33) (v := ?_) (a' := ?_) #[tt,tt,tt,tt,ff,ff,ff,ff,ff,ff,ff,ff,ff,ff,ff,ff,ff] rfl rfl (any_of HT_.out (by kernel_rfl)) (fun _ _ _ h => h) (Or.inl ⟨by rfl, ?_⟩) ?_ ?_
          rotate_left; exact slv; rotate_left; exact sla
          refine pure_ (i := 4) (N := some 34) (v := ?_) (a' := ?_) #[tt,tt,tt,tt,tt,ff,ff,ff,ff,ff,ff,ff,ff,ff,ff,ff,ff] rfl rfl (any_of HT_.out (by kernel_rfl)) (fun _ _ _ h => h) (Or.inl ⟨by rfl, ?_⟩) ?_ ?_
          rotate_left; exact slv; rotate_left; exact sla
          refine pure_ (i := 6) (N := some 36) (v := ?_) (a' := ?_) #[tt,tt,tt,tt,tt,ff,tt,ff,ff,ff,ff,ff,ff,ff,ff,ff,ff] rfl rfl (any_of HT_.out (by kernel_rfl)) (fun _ _ _ h => h) (Or.inl ⟨by rfl, ?_⟩) ?_ ?_
          rotate_left; exact slv; rotate_left; exact sla
          refine pure_ (i := 7) (N := some 37) (v := ?_) (a' := ?_) #[tt,tt,tt,tt,tt,ff,tt,tt,ff,ff,ff,ff,ff,ff,ff,ff,ff] rfl rfl (any_of HT_.out (by kernel_rfl)) (fun _ _ _ h => h) (Or.inl ⟨by rfl, ?_⟩) ?_ ?_
          rotate_left; exact slv; rotate_left; exact sla
          refine pure_ (i := 8) (N := some 38) (v := ?_) (a' := ?_) #[tt,tt,tt,tt,tt,ff,tt,tt,tt,ff,ff,ff,ff,ff,ff,ff,ff] rfl rfl (any_of HT_.out (by kernel_rfl)) (fun _ _ _ h => h) (Or.inl ⟨by rfl, ?_⟩) ?_ ?_
          rotate_left; exact slv; rotate_left; exact sla
          refine pure_ (i := 9) (N := some 39) (v := ?_) (a' := ?_) #[tt,tt,tt,tt,tt,ff,tt,tt,tt,tt,ff,ff,ff,ff,ff,ff,ff] rfl rfl (any_of HT_.out (by kernel_rfl)) (fun _ _ _ h => h) (Or.inl ⟨by rfl, ?_⟩) ?_ ?_
          rotate_left; exact slv; rotate_left; exact sla
          refine pure_ (i := 11) (N := some 41) (v := ?_) (a' := ?_) #[tt,tt,tt,tt,tt,ff,tt,tt,tt,tt,ff,tt,ff,ff,ff,ff,ff] rfl rfl (any_of HT_.out (by kernel_rfl)) (fun _ _ _ h => h) (Or.inl ⟨by rfl, ?_⟩) ?_ ?_
          rotate_left; exact slv; rotate_left; exact sla
          refine pure_ (i := 12) (N := some 42) (v := ?_) (a' := ?_) #[tt,tt,tt,tt,tt,ff,tt,tt,tt,tt,ff,tt,tt,ff,ff,ff,ff] rfl rfl (any_of HT_.out (by kernel_rfl)) (fun _ _ _ h => h) (Or.inl ⟨by rfl, ?_⟩) ?_ ?_
          rotate_left; exact slv; rotate_left; exact sla
          refine pure_ (i := 13) (N := some 43) (v := ?_) (a' := ?_) #[tt,tt,tt,tt,tt,ff,tt,tt,tt,tt,ff,tt,tt,tt,ff,ff,ff] rfl rfl (any_of HT_.out (by kernel_rfl)) (fun _ _ _ h => h) (Or.inl ⟨by rfl, ?_⟩) ?_ ?_
          rotate_left; exact slv; rotate_left; exact sla
          refine pure_ (i := 14) (N := some 44) (v := ?_) (a' := ?_) #[tt,tt,tt,tt,tt,ff,tt,tt,tt,tt,ff,tt,tt,tt,tt,ff,ff] rfl rfl (any_of HT_.out (by kernel_rfl)) (fun _ _ _ h => h) (Or.inl ⟨by rfl, ?_⟩) ?_ ?_
          rotate_left; exact slv; rotate_left; exact sla
          refine take_ (i := 5) (N := some 35) (v := ?_) (a' := ?_) #[tt,tt,tt,tt,tt,tt,tt,tt,tt,tt,ff,tt,tt,tt,tt,ff,ff] rfl rfl (take_ofW HT_.out HW_.out (by kernel_rfl)) (fun _ _ _ h => h) (Or.inl ⟨by rfl, ?_⟩) hHeld ?_ ?_
          rotate_left; exact slt3; rotate_left; exact sla
          refine take_ (i := 10) (N := some 40) (v := ?_) (a' := ?_) #[tt,tt,tt,tt,tt,tt,tt,tt,tt,tt,tt,tt,tt,tt,tt,ff,ff] rfl rfl (take_ofW HT_.out HW_.out (by kernel_rfl)) (fun _ _ _ h => h) (Or.inl ⟨by rfl, ?_⟩) hHeld ?_ ?_
          rotate_left; exact slt3; rotate_left; exact sla
          refine take_ (i := 15) (N := some 45) (v := ?_) (a' := ?_) #[tt,tt,tt,tt,tt,tt,tt,tt,tt,tt,tt,tt,tt,tt,tt,tt,ff] rfl rfl (take_ofW HT_.out HW_.out (by kernel_rfl)) (fun _ _ _ h => h) (Or.inl ⟨by rfl, ?_⟩) hHeld ?_ ?_
          rotate_left; exact slt3; rotate_left; exact sla
          refine one_ (i := 16) (N := some 46) #[tt,tt,tt,tt,tt,tt,tt,tt,tt,tt,tt,tt,tt,tt,tt,tt,tt] rfl rfl (one_of HT_.out (by kernel_rfl)) (by decide) (fun K hK => ?_)
          refine goes_ Try.func17 (by kernel_rfl) rfl #[.pointer (some ⟨g, 0, none⟩), .int .i64 x.1, .int .i64 x.2.1, .int .i64 x.2.2] (by rfl) rfl rfl (by simp only [List.map_toArray, List.map_cons, List.map_nil]; rfl) ?_
          with_reducible refine (HN4.out.road HB4.out.size x.1 x.2.1 x.2.2).mono ?_
          rintro e w5 ⟨rfl, F5, hn5, hc5, hf5⟩
          refine ⟨_, rfl, ?_⟩
          have HN5 : Aside0 (NetS w5 w.heap.size g (ps5 5) (out5 (k + 1)) F5) := ⟨by
            show NetS w5 w.heap.size g (ps5 5) (roadP (out5 k) (fiveR.getD k (0, 0, 0)).1 (fiveR.getD k (0, 0, 0)).2.1 (fiveR.getD k (0, 0, 0)).2.2).2 F5
            rw [HXK.out]
            exact hn5⟩
          have HSE5 := Aside0.mk (HS4.out.chg hc5 hf5)
          have HB5 : Aside0 (Below w.heap.size w w5) := ⟨((Chg.of_below (F := F2) HB4.out).trans hc5).below (Nat.le_refl _) (fun k hk => (HN4.out.ge k hk).1)⟩
          have HQ5 : Aside0 (w5.cell? (a.add (k * 3)) = some (.int .i64 x.1) ∧ w5.cell? ⟨(a.add (k * 3)).block, (a.add (k * 3)).off + 1, none⟩ = some (.int .i64 x.2.1) ∧ w5.cell? ⟨(a.add (k * 3)).block, (a.add (k * 3)).off + 2, none⟩ = some (.int .i64 x.2.2)) := ⟨by
            have hf := HS4.out.far a rfl
            have hblk : w5.heap[a.block]? = w4.heap[a.block]? := hc5.block _ hf.2 hf.1
            obtain ⟨s0, s1, s2⟩ := hHeld
            refine ⟨(World.cell?_of_block (by rw [add_block]; exact hblk)).trans s0, (World.cell?_of_block (by show w5.heap[(a.add (k * 3)).block]? = _; rw [add_block]; exact hblk)).trans s1, (World.cell?_of_block (by show w5.heap[(a.add (k * 3)).block]? = _; rw [add_block]; exact hblk)).trans s2⟩⟩
          clear hn5 hc5 hf5 HN4 HS4 HB4
          refine hK.out _ _ ⟨HQ5.out.1, HQ5.out.2.1, HQ5.out.2.2⟩ (fun hHeld => ?_)
          clear hK K
          refine norm_ (a' := ?_) ?_ ?_
          rotate_left
          · show Act.put _ (some 46) _ = _
            simp only [Act.put, List.setIfInBounds_toArray, List.set_cons_zero, List.set_cons_succ, i64_w, i32_w]
            rfl
          refine done_ (done_of HT_.out (by kernel_rfl)) ?_
          try clear hHeld
          have hwk : wrap64 ((k : Int) + 1) = (k : Int) + 1 := by unfold wrap64; omega
          go_wp2
          go_roundg gk2
          case measure => first | exact Nat.lt_succ_self _ | omega
          case rel => exact ⟨k + 1, F5, by first | rfl | (simp; done) | (rw [hwk]; rfl), HK1, HN5, HSE5, HB5⟩
    | succ gk2 =>
      have hi5 : i < 5 := by have := HI.out; omega
      have HI5 := Aside0.mk hi5
      have HI1 : Aside0 (i + 1 + gk2 = 5) := ⟨by have := HI.out; omega⟩
      have hlt : decide ((i : Int) < 5) = true := decide_eq_true (by omega)
      go_wp2_with fail
      refine (HN.out.node HB.out.size ((i : Int), 0) (okP_small HI5.out)).mono ?_
      rintro e w2 ⟨rfl, F2, hn2, hc2, hf2⟩
      have hnp := node5 i HI5.out
      rw [hnp] at hn2
      have HN2 : Aside0 (NetS w2 w.heap.size g (ps5 (i + 1)) (List.replicate (i + 1) []) F2) := ⟨hn2⟩
      have HB2 : Aside0 (Below w.heap.size w w2) := ⟨((Chg.of_below (F := F1) HB.out).trans hc2).below (Nat.le_refl _) (fun k hk => (HN.out.ge k hk).1)⟩
      have hwi : wrap64 ((i : Int) + 1) = (i : Int) + 1 := by unfold wrap64; omega
      clear hn2 hc2 hf2 hnp
      go_wp2
      go_roundg gk2
      case measure => first | exact Nat.lt_succ_self _ | omega
      case rel => exact ⟨i + 1, F2, by first | rfl | (simp; done) | (rw [hwi]; rfl), HI1, HN2, HB2⟩
end Go.Proofs.Ytgbfhhmmkhjhhaa.Paths
namespace Go.Proofs.Ytgbfhhmmkhjhhaa.Paths
open Go.Proofs.Ytgbfhhmmkhjhhaa.HeapP Go.Proofs.Ytgbfhhmmkhjhhaa.Dij
open Go.Proofs.Ytgbfhhmmkhjhhaa.Roads (outOf isN isN_iff)
set_option linter.unusedVariables false
set_option linter.unusedSimpArgs false
theorem DistTo.le {n : Nat} {outf : Int → List Rd} (hN : Net n outf) {s : Int} {c d : List Int} (hc : DistTo n outf s c) (hd : DistTo n outf s d) : ∀ (k : Nat) (v : Int), 0 ≤ v → v < n → 0 ≤ cv d v → cv d v ≤ k → 0 ≤ cv c v ∧ cv c v ≤ cv d v := by
  intro k
  induction k with
  | zero =>
    intro v v0 v1 v2 v3
    by_cases e : v = s
    · subst e
      rw [hc.st, hd.st]
      omega
    · obtain ⟨r, hr, e1, e2⟩ := hd.by_ v v0 v1 v2 e
      have := hN.road v r v0 v1 hr
      omega
  | succ k ih =>
    intro v v0 v1 v2 v3
    by_cases e : v = s
    · subst e
      rw [hc.st, hd.st]
      omega
    · obtain ⟨r, hr, e1, e2⟩ := hd.by_ v v0 v1 v2 e
      have := hN.road v r v0 v1 hr
      obtain ⟨p, q⟩ := ih r.2.1 this.1 this.2.1 e1 (by omega)
      have := hc.over v r v0 v1 hr p
      omega
theorem DistTo.uniq {n : Nat} {outf : Int → List Rd} (hN : Net n outf) {s : Int} {c d : List Int} (hc : DistTo n outf s c) (hd : DistTo n outf s d) : c = d := by
  apply List.ext_getElem?
  intro i
  by_cases hi : i < n
  · have e1 := cv_get (c := c) (v := (i : Int)) (by rw [hc.len]; omega)
    have e2 := cv_get (c := d) (v := (i : Int)) (by rw [hd.len]; omega)
    rw [Int.toNat_natCast] at e1 e2
    rw [e1, e2]
    congr 1
    have a := hc.ge (i : Int) (by omega)
    have b := hd.ge (i : Int) (by omega)
    by_cases q : 0 ≤ cv d (i : Int)
    · obtain ⟨p1, p2⟩ := DistTo.le hN hc hd (cv d (i : Int)).toNat i (by omega) (by omega) q (by omega)
      obtain ⟨p3, p4⟩ := DistTo.le hN hd hc (cv c (i : Int)).toNat i (by omega) (by omega) p1 (by omega)
      omega
    · by_cases q2 : 0 ≤ cv c (i : Int)
      · obtain ⟨p1, p2⟩ := DistTo.le hN hd hc (cv c (i : Int)).toNat i (by omega) (by omega) q2 (by omega)
        omega
      · omega
  · rw [List.getElem?_eq_none (by rw [hc.len]; omega), List.getElem?_eq_none (by rw [hd.len]; omega)]
theorem WayR.uniq {outf : Int → List Rd} {c : List Int} {tv u : Int} {l m : List Int} (h : WayR outf c tv u l) (k : WayR outf c tv u m) : l = m := by
  induction h generalizing m with
  | stop =>
    cases k with
    | stop => rfl
    | go hu => exact absurd rfl hu
  | go hu h1 h2 h3 ih =>
    cases k with
    | stop => exact absurd rfl hu
    | go _ k1 k2 k3 =>
      obtain ⟨x, hx, cx, ex⟩ := h1
      obtain ⟨y, hy, cy, ey⟩ := k1
      have e1 := h2 y hy cy
      have e2 := k2 x hx cx
      rw [ey] at e1
      rw [ex] at e2
      have e := Int.le_antisymm e1 e2
      subst e
      rw [ih k3]
/-- are these the costs from s -/
def distB (n : Nat) (out : List (List Rd)) (s : Nat) (c : List Int) : Bool :=
  decide (c.length = n) && decide (cv c s = 0) && (List.range n).all (fun v => decide (-1 ≤ cv c v) && decide (cv c v ≤ 1048576 * n) && (decide (cv c v < 0) || ((out.getD v []).all (fun r => decide (0 ≤ cv c r.2.1) && decide (cv c r.2.1 ≤ cv c v + r.2.2)) && (decide (v = s) || (List.range n).any (fun u => decide (0 ≤ cv c u) && (out.getD u []).any (fun r => decide (r.2.1 = v) && decide (cv c v = cv c u + r.2.2)))))))
theorem outOf_at {n : Nat} {out : List (List Rd)} (hl : out.length = n) {v : Int} (h0 : 0 ≤ v) (h1 : v < n) : outOf out v = out.getD v.toNat [] := by
  unfold outOf
  rw [if_pos (isN_iff.2 (by omega))]
theorem dist_of_B {n : Nat} {out : List (List Rd)} (hl : out.length = n) {s : Nat} {c : List Int} (h : distB n out s c = true) : Dist n (outOf out) s c := by
  unfold distB at h
  rw [Bool.and_eq_true, Bool.and_eq_true, decide_eq_true_iff, decide_eq_true_iff, List.all_eq_true] at h
  obtain ⟨⟨h1, h2⟩, h3⟩ := h
  have h4 : ∀ v : Int, 0 ≤ v → v < n → (-1 ≤ cv c v ∧ cv c v ≤ 1048576 * n) ∧ (cv c v < 0 ∨ ((∀ r ∈ outOf out v, 0 ≤ cv c r.2.1 ∧ cv c r.2.1 ≤ cv c v + r.2.2) ∧ (v = s ∨ ∃ u : Nat, u < n ∧ 0 ≤ cv c u ∧ ∃ r ∈ outOf out u, r.2.1 = v ∧ cv c v = cv c u + r.2.2))) := by
    intro v v0 v1
    have := h3 v.toNat (List.mem_range.2 (by omega))
    have ev : ((v.toNat : Nat) : Int) = v := by omega
    rw [ev] at this
    rw [Bool.and_eq_true, Bool.and_eq_true, Bool.or_eq_true, Bool.and_eq_true, Bool.or_eq_true, decide_eq_true_iff, decide_eq_true_iff, decide_eq_true_iff, decide_eq_true_iff, List.all_eq_true, List.any_eq_true] at this
    refine ⟨this.1, this.2.imp id (fun q => ⟨fun r hr => ?_, q.2.imp (fun e => by omega) (fun e => ?_)⟩)⟩
    · rw [outOf_at hl v0 v1] at hr
      have := q.1 r hr
      rwa [Bool.and_eq_true, decide_eq_true_iff, decide_eq_true_iff] at this
    · obtain ⟨u, hu, e⟩ := e
      rw [Bool.and_eq_true, decide_eq_true_iff, List.any_eq_true] at e
      obtain ⟨e1, r, hr, e2⟩ := e
      rw [Bool.and_eq_true, decide_eq_true_iff, decide_eq_true_iff] at e2
      refine ⟨u, List.mem_range.1 hu, e1, r, ?_, e2.1, e2.2⟩
      rw [outOf_at hl (by omega) (by have := List.mem_range.1 hu; omega), Int.toNat_natCast]
      exact hr
  refine ⟨h1, fun v v0 => ?_, h2, fun v r v0 v1 v2 hr => ?_, fun v v0 v1 v2 hv => ?_, fun v v0 v1 => (h4 v v0 v1).1.2⟩
  · rcases Int.lt_or_le v n with q | q
    · exact (h4 v v0 q).1.1
    · unfold cv
      rw [List.getD_eq_getElem?_getD, List.getElem?_eq_none (by omega)]
      exact Int.le_refl _
  · rcases (h4 v v0 v1).2 with q | q
    · omega
    · exact q.1 r hr
  · rcases (h4 v v0 v1).2 with q | q
    · omega
    · rcases q.2 with e | ⟨u, u1, u2, q⟩
      · exact absurd e hv
      · exact ⟨u, by omega, by omega, u2, q⟩
/-- are these the costs to s -/
def distToB (n : Nat) (out : List (List Rd)) (s : Nat) (c : List Int) : Bool :=
  decide (c.length = n) && decide (cv c s = 0) && (List.range n).all (fun v => decide (-1 ≤ cv c v) && decide (cv c v ≤ 1048576 * n) && (out.getD v []).all (fun r => decide (cv c r.2.1 < 0) || (decide (0 ≤ cv c v) && decide (cv c v ≤ cv c r.2.1 + r.2.2))) && (decide (cv c v < 0) || decide (v = s) || (out.getD v []).any (fun r => decide (0 ≤ cv c r.2.1) && decide (cv c v = cv c r.2.1 + r.2.2))))
theorem distTo_of_B {n : Nat} {out : List (List Rd)} (hl : out.length = n) {s : Nat} {c : List Int} (h : distToB n out s c = true) : DistTo n (outOf out) s c := by
  unfold distToB at h
  rw [Bool.and_eq_true, Bool.and_eq_true, decide_eq_true_iff, decide_eq_true_iff, List.all_eq_true] at h
  obtain ⟨⟨h1, h2⟩, h3⟩ := h
  have h4 : ∀ v : Int, 0 ≤ v → v < n → (-1 ≤ cv c v ∧ cv c v ≤ 1048576 * n) ∧ (∀ r ∈ outOf out v, cv c r.2.1 < 0 ∨ (0 ≤ cv c v ∧ cv c v ≤ cv c r.2.1 + r.2.2)) ∧ ((cv c v < 0 ∨ v = s) ∨ ∃ r ∈ outOf out v, 0 ≤ cv c r.2.1 ∧ cv c v = cv c r.2.1 + r.2.2) := by
    intro v v0 v1
    have := h3 v.toNat (List.mem_range.2 (by omega))
    have ev : ((v.toNat : Nat) : Int) = v := by omega
    rw [ev] at this
    rw [Bool.and_eq_true, Bool.and_eq_true, Bool.and_eq_true, Bool.or_eq_true, Bool.or_eq_true, decide_eq_true_iff, decide_eq_true_iff, decide_eq_true_iff, decide_eq_true_iff, List.all_eq_true, List.any_eq_true] at this
    refine ⟨this.1.1, fun r hr => ?_, this.2.imp (fun q => q.imp id (fun e => by omega)) (fun e => ?_)⟩
    · rw [outOf_at hl v0 v1] at hr
      have := this.1.2 r hr
      rwa [Bool.or_eq_true, Bool.and_eq_true, decide_eq_true_iff, decide_eq_true_iff, decide_eq_true_iff] at this
    · obtain ⟨r, hr, e⟩ := e
      rw [Bool.and_eq_true, decide_eq_true_iff, decide_eq_true_iff] at e
      rw [outOf_at hl v0 v1]
      exact ⟨r, hr, e.1, e.2⟩
  refine ⟨h1, fun v v0 => ?_, h2, fun v r v0 v1 hr v2 => ?_, fun v v0 v1 v2 hv => ?_, fun v v0 v1 => (h4 v v0 v1).1.2⟩
  · rcases Int.lt_or_le v n with q | q
    · exact (h4 v v0 q).1.1
    · unfold cv
      rw [List.getD_eq_getElem?_getD, List.getElem?_eq_none (by omega)]
      exact Int.le_refl _
  · rcases (h4 v v0 v1).2.1 r hr with q | q
    · omega
    · exact q
  · rcases (h4 v v0 v1).2.2 with (q | q) | q
    · omega
    · exact absurd q hv
    · exact q
/-- one step of a way -/
theorem WayR.step {n : Nat} {out : List (List Rd)} (hl : out.length = n) {c : List Int} {tv u nx : Int} {l : List Int} (h0 : 0 ≤ u ∧ u < n) (hu : u ≠ tv) (h1 : ((out.getD u.toNat []).any (fun x => decide (0 ≤ cv c x.2.1) && decide (cv c x.2.1 + x.2.2 = cv c u) && decide (x.2.1 = nx)) && (out.getD u.toNat []).all (fun y => decide (cv c y.2.1 < 0) || decide (cv c y.2.1 + y.2.2 ≠ cv c u) || decide (nx ≤ y.2.1))) = true) (h3 : WayR (outOf out) c tv nx l) : WayR (outOf out) c tv u (u :: l) := by
  rw [Bool.and_eq_true, List.any_eq_true, List.all_eq_true] at h1
  obtain ⟨⟨x, hx, e⟩, h2⟩ := h1
  rw [Bool.and_eq_true, Bool.and_eq_true, decide_eq_true_iff, decide_eq_true_iff, decide_eq_true_iff] at e
  refine WayR.go hu ⟨x, by rw [outOf_at hl h0.1 h0.2]; exact hx, ⟨e.1.1, e.1.2⟩, e.2⟩ (fun y hy hc => ?_) h3
  rw [outOf_at hl h0.1 h0.2] at hy
  have := h2 y hy
  rw [Bool.or_eq_true, Bool.or_eq_true, decide_eq_true_iff, decide_eq_true_iff, decide_eq_true_iff] at this
  obtain ⟨c1, c2⟩ := hc
  rcases this with (q | q) | q
  · omega
  · exact absurd c2 q
  · exact q
abbrev out5f : List (List Rd) := out5 6
theorem net5 : Net 5 (outOf (out5 6)) := by
  refine ⟨fun u r h0 h1 hr => ?_⟩
  rw [outOf_at (n := 5) (by decide +kernel) h0 h1, out5_full] at hr
  have : u.toNat = 0 ∨ u.toNat = 1 ∨ u.toNat = 2 ∨ u.toNat = 3 ∨ u.toNat = 4 := by omega
  rcases this with e | e | e | e | e <;> rw [e] at hr <;> simp at hr
  · rcases hr with rfl | rfl <;> decide
  · subst hr; decide
  · rcases hr with rfl | rfl <;> decide
  · subst hr; decide
theorem from5 {c : List Int} (h : Dist 5 (outOf (out5 6)) 0 c) : c = [0, 2, 1, 7, -1] :=
  Dist.uniq net5 h (dist_of_B (s := 0) (by decide +kernel) (by decide +kernel))
theorem to5 {c : List Int} (h : DistTo 5 (outOf (out5 6)) 3 c) : c = [7, 5, 6, 0, -1] :=
  DistTo.uniq net5 h (distTo_of_B (s := 3) (by decide +kernel) (by decide +kernel))
theorem way5 {l : List Int} (h : WayR (outOf (out5 6)) [7, 5, 6, 0, -1] 3 0 l) : l = [0, 1, 3] :=
  WayR.uniq h (WayR.step (n := 5) (by decide +kernel) (by decide) (by decide) (nx := 1) (by decide +kernel) (WayR.step (n := 5) (by decide +kernel) (by decide) (by decide) (nx := 3) (by decide +kernel) WayR.stop))
theorem ord5 {o : List Int} (h : Ord 5 [0, 2, 1, 7, -1] o) : o = [0, 2, 1, 3] := by
  refine Ord.uniq h ⟨fun v => ?_, by decide +kernel⟩
  constructor
  · intro hv
    simp at hv
    rcases hv with rfl | rfl | rfl | rfl <;> decide
  · rintro ⟨h0, h1, h2⟩
    have : v = 0 ∨ v = 1 ∨ v = 2 ∨ v = 3 ∨ v = 4 := by omega
    rcases this with rfl | rfl | rfl | rfl | rfl
    · decide
    · decide
    · decide
    · decide
    · exact absurd h2 (by decide)
end Go.Proofs.Ytgbfhhmmkhjhhaa.Paths
namespace Go.Proofs.Ytgbfhhmmkhjhhaa.Paths
open Go.RowKit Go.Proofs.YtgbfhhmmkhjhhaaW.PrintWords Go.Proofs.YtgbfhhmmkhjhhaaW.PrintLast Go.Proofs.YtgbfhhmmkhjhhaaW.PrintMore Go.Proofs.Ytgbfhhmmkhjhhaa.HeapW Go.Proofs.Ytgbfhhmmkhjhhaa.HeapP Go.Proofs.Ytgbfhhmmkhjhhaa.MapAt Go.Proofs.Ytgbfhhmmkhjhhaa.Dij
open Go.Proofs.Ytgbfhhmmkhjhhaa.Roads (NetS outOf isN isN_iff)
set_option linter.unusedVariables false
set_option linter.unusedSimpArgs false
theorem len5 : (out5 6).length = 5 := by decide +kernel
section
variable {w : World} {base g : Nat} {ps : List Roads.Pt} {F : Nat → Prop}
theorem from5_calls (h : NetS w base g ps (out5 6) F) (hb : base ≤ w.heap.size) : Calls Try.prog 11 #[.pointer (some ⟨g, 0, none⟩), .int .i64 0] w fun e w' => Below w.heap.size w w' ∧ ∃ A cc, e = .returned (.tuple #[.slice A 5 cc, .int .i64 0]) ∧ Kd.C kInt w' A 5 [0, 2, 1, 7, -1] := by
  refine (from_calls h hb 0).mono ?_
  rintro e w' ⟨h1, h2⟩
  rw [len5] at h2
  rcases h2 with ⟨q, _⟩ | ⟨_, A, cc, c, rfl, hr, hd⟩
  · exact absurd q (by decide)
  · have := from5 hd
    subst this
    exact ⟨h1, A, cc, rfl, (Kd.R_reads' hr).2.2⟩
theorem way5_calls (h : NetS w base g ps (out5 6) F) (hb : base ≤ w.heap.size) : Calls Try.prog 14 #[.pointer (some ⟨g, 0, none⟩), .int .i64 0, .int .i64 3] w fun e w' => Below w.heap.size w w' ∧ ∃ A cc, e = .returned (.tuple #[.slice A 3 cc, .int .i64 7, .int .i64 0]) ∧ Kd.C kInt w' A 3 [0, 1, 3] := by
  refine (way_calls h hb 0 3).mono ?_
  rintro e w' ⟨h1, h2⟩
  rw [len5] at h2
  rcases h2 with ⟨q, _⟩ | ⟨_, c, hd, h3⟩
  · exact absurd q (by decide)
  · have := to5 hd
    subst this
    rcases h3 with ⟨q, _⟩ | ⟨_, A, cc, l, rfl, hr, hw⟩
    · exact absurd q (by decide)
    · have := way5 hw
      subst this
      exact ⟨h1, A, cc, rfl, (Kd.R_reads' hr).2.2⟩
theorem within5_calls (h : NetS w base g ps (out5 6) F) (hb : base ≤ w.heap.size) : Calls Try.prog 20 #[.pointer (some ⟨g, 0, none⟩), .int .i64 0, .int .i64 2] w fun e w' => Below w.heap.size w w' ∧ ∃ A cc, e = .returned (.tuple #[.slice A 3 cc, .int .i64 0]) ∧ Kd.C kInt w' A 3 [0, 2, 1] := by
  refine (within_calls h hb 0 2).mono ?_
  rintro e w' ⟨h1, h2⟩
  rw [len5] at h2
  rcases h2 with ⟨q, _⟩ | ⟨_, A, cc, c, o, rfl, hC, _, _, hd, ho⟩
  · exact absurd q (by decide)
  · have := from5 hd
    subst this
    have := ord5 ho
    subst this
    have e : withinP [0, 2, 1, 7, -1] [0, 2, 1, 3] 2 = [0, 2, 1] := by decide +kernel
    rw [e] at hC ⊢
    exact ⟨h1, A, cc, rfl, hC⟩
theorem table5_calls (h : NetS w base g ps (out5 6) F) (hb : base ≤ w.heap.size) (A : Option Addr) (c : Nat) (hC : Kd.C kInt w A 1 [5]) : Calls Try.prog 19 #[.pointer (some ⟨g, 0, none⟩), .slice A 1 c] w fun e w' => Below w.heap.size w w' ∧ e = .returned (.tuple #[.slice none 0 0, .int .i64 131]) :=
  table_gone h hb A c [5] hC (by simp) (by rw [len5]; decide +kernel)
end
set_option maxHeartbeats 6400000 in
set_option maxRecDepth 100000 in
theorem lives_calls (w : World) : Calls Try.prog 10 #[] w fun e w' => e = .returned (.bool true) ∧ Below w.heap.size w w' := by
  have qe := eql_ptr
  go_enter Try.func10, Try.ntmps10
  go_wp2_with fail
  refine (five_calls w).mono ?_
  rintro e w1 ⟨g, F, rfl, hn, hb⟩
  have HN := Aside0.mk hn
  have HB := Aside0.mk hb
  clear hn hb
  go_wp2_with fail
  refine (from5_calls HN.out HB.out.size).mono ?_
  rintro e w2 ⟨hb2, A2, c2, rfl, hC2⟩
  have HC2 := Aside0.mk hC2
  have HN2 := Aside0.mk (HN.out.below hb2)
  have HB2 := Aside0.mk (below_step HB.out hb2)
  clear hb2 hC2 HN HB
  go_wp2_with fail
  refine (way5_calls HN2.out HB2.out.size).mono ?_
  rintro e w3 ⟨hb3, A3, c3, rfl, hC3⟩
  have HC2' := Aside0.mk (Kd.C_below HC2.out hb3)
  have HC3 := Aside0.mk hC3
  have HN3 := Aside0.mk (HN2.out.below hb3)
  have HB3 := Aside0.mk (below_step HB2.out hb3)
  clear hb3 hC3 HN2 HB2 HC2
  go_wp2_with fail
  refine (within5_calls HN3.out HB3.out.size).mono ?_
  rintro e w4 ⟨hb4, A4, c4, rfl, hC4⟩
  have HC2 := Aside0.mk (Kd.C_below HC2'.out hb4)
  have HC3' := Aside0.mk (Kd.C_below HC3.out hb4)
  have HC4 := Aside0.mk hC4
  have HN4 := Aside0.mk (HN3.out.below hb4)
  have HB4 := Aside0.mk (below_step HB3.out hb4)
  clear hb4 hC4 HN3 HB3 HC2' HC3
  go_wp2_with fail
  have hbx := below_alloc (Below.refl w4.heap.size w4) (.cells #[.int .i64 5] 3)
  refine (table5_calls (HN4.out.below hbx) (Nat.le_trans HB4.out.size hbx.size) _ 1 (c_of_box (cs := [5]) (blk_new w4 _) rfl (by simp))).mono ?_
  rintro e w5 ⟨hb5, rfl⟩
  have hb45 := below_step hbx hb5
  have HD2 := Aside0.mk (Kd.C_below HC2.out hb45)
  have HD3 := Aside0.mk (Kd.C_below HC3'.out hb45)
  have HD4 := Aside0.mk (Kd.C_below HC4.out hb45)
  have HB5 := Aside0.mk (below_step HB4.out hb45)
  clear hbx hb5 hb45 HC2 HC3' HC4 HN4 HB4
  go_wp2_with fail
  refine (same_calls A2 _ c2 5 [0, 2, 1, 7, -1] [0, 2, 1, 7, -1] _ (Kd.C_alloc HD2.out _) (c_of_box (cs := [0, 2, 1, 7, -1]) (blk_new w5 _) rfl (by simp)) (by simp)).mono ?_
  rintro e w6 ⟨rfl, hb6⟩
  have hb56 := below_step (below_alloc (Below.refl w5.heap.size w5) _) hb6
  have HE3 := Aside0.mk (Kd.C_below HD3.out hb56)
  have HE4 := Aside0.mk (Kd.C_below HD4.out hb56)
  have HB6 := Aside0.mk (below_step HB5.out hb56)
  rw [show decide (([0, 2, 1, 7, -1] : List Int) = [0, 2, 1, 7, -1]) = true from by decide]
  clear hb6 hb56 HD2 HD3 HD4 HB5
  go_wp2_with fail
  refine (same_calls A3 _ c3 3 [0, 1, 3] [0, 1, 3] _ (Kd.C_alloc HE3.out _) (c_of_box (cs := [0, 1, 3]) (blk_new w6 _) rfl (by simp)) (by simp)).mono ?_
  rintro e w7 ⟨rfl, hb7⟩
  have hb67 := below_step (below_alloc (Below.refl w6.heap.size w6) _) hb7
  have HF4 := Aside0.mk (Kd.C_below HE4.out hb67)
  have HB7 := Aside0.mk (below_step HB6.out hb67)
  rw [show decide (([0, 1, 3] : List Int) = [0, 1, 3]) = true from by decide]
  clear hb7 hb67 HE3 HE4 HB6
  go_wp2_with fail
  refine (same_calls A4 _ c4 3 [0, 2, 1] [0, 2, 1] _ (Kd.C_alloc HF4.out _) (c_of_box (cs := [0, 2, 1]) (blk_new w7 _) rfl (by simp)) (by simp)).mono ?_
  rintro e w8 ⟨rfl, hb8⟩
  have HB8 := Aside0.mk (below_step HB7.out (below_step (below_alloc (Below.refl w7.heap.size w7) _) hb8))
  rw [show decide (([0, 2, 1] : List Int) = [0, 2, 1]) = true from by decide]
  clear hb8 HF4 HB7
  go_wp2
  go_ret
  exact ⟨rfl, HB8.out⟩
end Go.Proofs.Ytgbfhhmmkhjhhaa.Paths
namespace Go.Proofs.Ytgbfhhmmkhjhhaa.Paths
open Go.RowKit Go.Proofs.YtgbfhhmmkhjhhaaW.PrintWords Go.Proofs.YtgbfhhmmkhjhhaaW.PrintLast Go.Proofs.YtgbfhhmmkhjhhaaW.PrintMore Go.Proofs.Ytgbfhhmmkhjhhaa.HeapW Go.Proofs.Ytgbfhhmmkhjhhaa.HeapP Go.Proofs.Ytgbfhhmmkhjhhaa.MapAt Go.Proofs.Ytgbfhhmmkhjhhaa.Dij
open Go.Proofs.Ytgbfhhmmkhjhhaa.Roads (NetS outOf isN isN_iff nodeP roadP okP kPt kRd flat_keep Flat flatPt flatRd)
set_option linter.unusedVariables false
set_option linter.unusedSimpArgs false
/-- roads, and a row of one's own (elements of type e) that is none of their blocks -/
structure Beside {α : Type} (d : Kd α) (e : Nat) (w W : World) (g : Nat) (F : Nat → Prop) (pv : Value) (qs : List α) (ps : List Roads.Pt) (out : List (List Rd)) : Prop where
  net : NetS W w.heap.size g ps out F
  row : d.R e W w.heap.size (fun _ => True) pv qs
  below : Below w.heap.size w W
  far : ∀ k, pv.ownBlock = some k → ¬ F k
section
variable {α : Type} {d : Kd α} {e : Nat} {w W W' : World} {g : Nat} {F : Nat → Prop} {pv : Value} {qs : List α} {ps : List Roads.Pt} {out : List (List Rd)}
theorem Beside.step (h : Beside d e w W g F pv qs ps out) (hb : Below W.heap.size W W') : Beside d e w W' g F pv qs ps out :=
  ⟨h.net.below hb, Kd.R_below h.row hb, below_step h.below hb, h.far⟩
/-- the roads have changed -/
theorem Beside.laid (hd : Flat d) (h : Beside d e w W g F pv qs ps out) {F' : Nat → Prop} {ps' : List Roads.Pt} {out' : List (List Rd)} (hn : NetS W' w.heap.size g ps' out' F') (hc : Chg F W W') (hF : ∀ k, F' k → F k ∨ W.heap.size ≤ k) : Beside d e w W' g F' pv qs ps' out' where
  net := hn
  row := flat_keep hd h.row (fun k hk => hc.block k (Kd.R_lt h.row k hk) (h.far k hk)) (fun _ _ => trivial)
  below := ((Chg.of_below (F := F) h.below).trans hc).below (Nat.le_refl _) (fun k hk => (h.net.ge k hk).1)
  far k hk q := by
    rcases hF k q with q | q
    · exact h.far k hk q
    · have := Kd.R_lt h.row k hk; omega
/-- the row has grown -/
theorem Beside.app (h : Beside d e w W g F pv qs ps out) {pv' : Value} {qs' : List α} (hr : d.R e W' w.heap.size (fun _ => True) pv' qs') (hb : Below w.heap.size w W') (hg : W.grownBy W' pv.ownBlock) (hat : pv'.ownBlock = pv.ownBlock ∨ ∃ b, pv'.ownBlock = some b ∧ W.heap.size ≤ b) : Beside d e w W' g F pv' qs' ps out where
  net := h.net.chg (Chg.of_grown hg) (fun k hk q => h.far k q.symm hk)
  row := hr
  below := hb
  far k hk q := by
    rcases hat with e1 | ⟨b, e1, hle⟩
    · exact h.far k (e1 ▸ hk) q
    · rw [e1] at hk
      cases hk
      have := (h.net.ge k q).2
      omega
/-- another block of one's own has changed -/
theorem Beside.other (hd : Flat d) (h : Beside d e w W g F pv qs ps out) {G : Nat → Prop} (hc : Chg G W W') (hF : ∀ k, F k → ¬ G k) (hG : ∀ k, pv.ownBlock = some k → ¬ G k) (hb : Below w.heap.size w W') : Beside d e w W' g F pv qs ps out :=
  ⟨h.net.chg hc hF, flat_keep hd h.row (fun k hk => hc.block k (Kd.R_lt h.row k hk) (hG k hk)) (fun _ _ => trivial), hb, h.far⟩
end
/-- three boxes that stand, none of the blocks F -/
structure Three (W : World) (F : Nat → Prop) (gt gr gn : Nat) (a b c : Obj) : Prop where
  t : W.heap[gt]? = some a
  r : W.heap[gr]? = some b
  n : W.heap[gn]? = some c
  ft : ¬ F gt
  fr : ¬ F gr
  fn : ¬ F gn
theorem Three.step {W W' : World} {F : Nat → Prop} {gt gr gn : Nat} {a b c : Obj} (h : Three W F gt gr gn a b c) (hb : Below W.heap.size W W') : Three W' F gt gr gn a b c :=
  ⟨(hb.block _ (blk_lt h.t)).trans h.t, (hb.block _ (blk_lt h.r)).trans h.r, (hb.block _ (blk_lt h.n)).trans h.n, h.ft, h.fr, h.fn⟩
theorem Three.laid {W W' : World} {F F' : Nat → Prop} {gt gr gn : Nat} {a b c : Obj} (h : Three W F gt gr gn a b c) (hc : Chg F W W') (hF : ∀ k, F' k → F k ∨ W.heap.size ≤ k) : Three W' F' gt gr gn a b c :=
  have hn : ∀ {k : Nat} {o : Obj}, W.heap[k]? = some o → ¬ F k → ¬ F' k := fun ho hf q => by
    rcases hF _ q with q | q
    · exact hf q
    · have := blk_lt ho; omega
  ⟨hc.heap h.t h.ft, hc.heap h.r h.fr, hc.heap h.n h.fn, hn h.t h.ft, hn h.r h.fr, hn h.n h.fn⟩
theorem Three.grown {W W' : World} {F : Nat → Prop} {gt gr gn : Nat} {a b c : Obj} {row : Option Nat} (h : Three W F gt gr gn a b c) (hg : W.grownBy W' row) (h1 : row ≠ some gt) (h2 : row ≠ some gr) (h3 : row ≠ some gn) : Three W' F gt gr gn a b c :=
  ⟨(hg.block _ (blk_lt h.t) (fun e => h1 e.symm)).trans h.t, (hg.block _ (blk_lt h.r) (fun e => h2 e.symm)).trans h.r, (hg.block _ (blk_lt h.n) (fun e => h3 e.symm)).trans h.n, h.ft, h.fr, h.fn⟩
/-- may a node be laid at p -/
def freshP (ps : List Roads.Pt) (p : Roads.Pt) : Bool := decide (ps.length < 4096) && !decide (p ∈ ps)
theorem node_fresh {ps : List Roads.Pt} {out : List (List Rd)} {p : Roads.Pt} (h : freshP ps p = true) : nodeP ps out p = ((((ps.length : Nat) : Int), (0 : Int)), ps ++ [p], out ++ [[]]) := by
  unfold freshP at h
  rw [Bool.and_eq_true, decide_eq_true_iff, Bool.not_eq_true', decide_eq_false_iff_not] at h
  unfold nodeP
  rw [if_neg (by omega), if_neg h.2]
theorem node_stale {ps : List Roads.Pt} {out : List (List Rd)} {p : Roads.Pt} (h : freshP ps p = false) : (nodeP ps out p).2 = (ps, out) ∧ (nodeP ps out p).1.1 = 0 ∧ ((nodeP ps out p).1.2 = 3 ∨ (nodeP ps out p).1.2 = 130) := by
  unfold freshP at h
  unfold nodeP
  by_cases h1 : 4096 ≤ ps.length
  · rw [if_pos h1]
    exact ⟨rfl, rfl, Or.inl rfl⟩
  · rw [if_neg h1]
    by_cases h2 : p ∈ ps
    · rw [if_pos h2]
      exact ⟨rfl, rfl, Or.inr rfl⟩
    · rw [Bool.and_eq_false_iff, decide_eq_false_iff_not, Bool.not_eq_false', decide_eq_true_iff] at h
      rcases h with q | q
      · omega
      · exact absurd q h2
/-- may a road be laid -/
def mayP (n : Nat) (R : List Rd) (x : Rd) : Bool := isN n x.1 && isN n x.2.1 && decide (x.1 ≠ x.2.1) && decide (1 ≤ x.2.2) && decide (x.2.2 ≤ 1048576) && R.all (fun y => decide (y.1 ≠ x.1 ∨ y.2.1 ≠ x.2.1))
/-- the document's list of roads, and the rows -/
structure NetRel (R : List Rd) (out : List (List Rd)) : Prop where
  one : ∀ x ∈ R, x ∈ outOf out x.1
  two : ∀ (v : Int) (x : Rd), x ∈ outOf out v → x ∈ R ∧ x.1 = v
theorem NetRel.start (n : Nat) : NetRel [] (List.replicate n []) where
  one x hx := by simp at hx
  two v x hx := by
    unfold outOf at hx
    split at hx
    · rw [List.getD_eq_getElem?_getD, List.getElem?_replicate] at hx
      split at hx <;> simp at hx
    · simp at hx
theorem out_set {out : List (List Rd)} {i : Nat} {l : List Rd} (hi : i < out.length) (v : Int) : outOf (out.set i l) v = if v = (i : Int) then l else outOf out v := by
  unfold outOf
  rw [List.length_set]
  by_cases e : v = (i : Int)
  · subst e
    rw [if_pos rfl, if_pos (isN_iff.2 (by omega)), Int.toNat_natCast, List.getD_eq_getElem?_getD, List.getElem?_set, if_pos rfl, if_pos hi]
    rfl
  · rw [if_neg e]
    by_cases h : isN out.length v = true
    · have := isN_iff.1 h
      rw [if_pos h, if_pos h, List.getD_eq_getElem?_getD, List.getD_eq_getElem?_getD, List.getElem?_set, if_neg (by omega)]
    · rw [if_neg h, if_neg h]
theorem may_road {n : Nat} {R : List Rd} {out : List (List Rd)} (hG : Roads.Good n out) (hon : out.length = n) (hR : NetRel R out) (x : Rd) : (mayP n R x = true ∧ (roadP out x.1 x.2.1 x.2.2).1 = 0 ∧ NetRel (R ++ [x]) (roadP out x.1 x.2.1 x.2.2).2) ∨ (mayP n R x = false ∧ (roadP out x.1 x.2.1 x.2.2).1 ≠ 0 ∧ (roadP out x.1 x.2.1 x.2.2).2 = out) := by
  unfold roadP mayP
  rw [hon]
  by_cases h1 : ¬ (isN n x.1 = true ∧ isN n x.2.1 = true)
  · rw [if_pos h1]
    right
    refine ⟨?_, by simp, rfl⟩
    cases ha : isN n x.1 with
    | false => simp
    | true =>
      cases hb : isN n x.2.1 with
      | false => simp
      | true => exact absurd ⟨ha, hb⟩ h1
  · rw [if_neg h1]
    obtain ⟨ha, hb⟩ := Classical.not_not.1 h1
    rw [ha, hb]
    by_cases h2 : x.1 = x.2.1 ∨ x.2.2 < 1 ∨ 1048576 < x.2.2
    · rw [if_pos h2]
      right
      refine ⟨?_, by simp, rfl⟩
      rcases h2 with q | q | q
      · simp [q]
      · rw [show decide (1 ≤ x.2.2) = false from decide_eq_false (by omega)]
        simp
      · rw [show decide (x.2.2 ≤ 1048576) = false from decide_eq_false (by omega)]
        simp
    · rw [if_neg h2]
      have e1 : decide (x.1 ≠ x.2.1) = true := decide_eq_true (fun e => h2 (Or.inl e))
      have e2 : decide (1 ≤ x.2.2) = true := decide_eq_true (by omega)
      have e3 : decide (x.2.2 ≤ 1048576) = true := decide_eq_true (by omega)
      rw [e1, e2, e3]
      simp only [Bool.true_and]
      by_cases h3 : (outOf out x.1).any (fun y => decide (y.2.1 = x.2.1)) = true
      · rw [if_pos h3]
        right
        refine ⟨?_, by simp, rfl⟩
        rw [List.any_eq_true] at h3
        obtain ⟨y, hy, e⟩ := h3
        rw [decide_eq_true_iff] at e
        obtain ⟨q1, q2⟩ := hR.two x.1 y hy
        rw [List.all_eq_false]
        exact ⟨y, q1, by simp [q2, e]⟩
      · rw [if_neg h3]
        left
        refine ⟨?_, rfl, ?_⟩
        · rw [List.all_eq_true]
          intro y hy
          rw [decide_eq_true_iff]
          by_cases q : y.1 = x.1
          · right
            intro e
            refine h3 (List.any_eq_true.2 ⟨y, ?_, by simpa using e⟩)
            rw [← q]
            exact hR.one y hy
          · exact Or.inl q
        · have hx := isN_iff.1 ha
          have hi : x.1.toNat < out.length := by omega
          have ex : ((x.1.toNat : Nat) : Int) = x.1 := by omega
          have hxx : ((x.1, x.2.1, x.2.2) : Rd) = x := rfl
          constructor
          · intro y hy
            rw [out_set hi, ex]
            rcases List.mem_append.1 hy with q | q
            · have := hR.one y q
              split
              · rename_i e
                rw [e] at this
                exact Roads.mem_ins.2 (Or.inl this)
              · exact this
            · simp at q
              subst q
              rw [if_pos rfl]
              exact Roads.mem_ins.2 (Or.inr rfl)
          · intro v y hy
            rw [out_set hi, ex] at hy
            split at hy
            · rename_i e
              subst e
              rcases Roads.mem_ins.1 hy with q | q
              · exact ⟨List.mem_append.2 (Or.inl (hR.two _ y q).1), (hR.two _ y q).2⟩
              · rw [q]
                exact ⟨List.mem_append.2 (Or.inr (by simp)), rfl⟩
            · exact ⟨List.mem_append.2 (Or.inl (hR.two _ y hy).1), (hR.two _ y hy).2⟩
theorem net_lower {w : World} {base base' g : Nat} {ps : List Roads.Pt} {out : List (List Rd)} {F : Nat → Prop} (h : NetS w base g ps out F) (hb : base' ≤ base) : NetS w base' g ps out F := by
  obtain ⟨PA, pc, OA, oc, b, hs, h1, h2, h3⟩ := h
  exact ⟨PA, pc, OA, oc, b, hs, ⟨h1.blk, Kd.R_lower h1.pts hb, Kd.R_lower h1.ows hb, fun j k l e1 e2 => ⟨(h1.rows j k l e1 e2).1, Kd.R_lower (h1.rows j k l e1 e2).2 hb⟩, h1.len, h1.apart, h1.map, ⟨Nat.le_trans hb h1.ge.1, Nat.le_trans hb h1.ge.2⟩, h1.okp, h1.nodup, h1.most, h1.short⟩, h2, h3⟩
/-- the point j of a read row of points -/
theorem pt_at {w : World} {A : Option Addr} {l : List Roads.Pt} {n : Nat} (h : Kd.C kPt w A n l) (hn : n = l.length) {j : Nat} (hj : j < l.length) :
    ∃ (a : Addr) (x : Roads.Pt), A = some a ∧ l[j]? = some x ∧ ∀ w', Below w.heap.size w w' → w'.cell? (a.add (j * 2)) = some (.int .i16 x.1) ∧ w'.cell? ⟨(a.add (j * 2)).block, (a.add (j * 2)).off + 1, none⟩ = some (.int .i16 x.2) := by
  obtain ⟨a, ha, h2⟩ := h.2.2 (by omega)
  obtain ⟨us, k1, k2, k3⟩ := h2 j l[j] (List.getElem?_eq_getElem hj)
  obtain ⟨x, hx⟩ : ∃ x, x = l[j] := ⟨_, rfl⟩
  rw [← hx] at k2
  obtain ⟨x1, x2⟩ := x
  obtain ⟨_, _, rfl, h0, h1⟩ := k2
  cases h0; cases h1
  have add_next : ∀ i, 0 < i → a.add (j * 2 + i) = ⟨(a.add (j * 2)).block, (a.add (j * 2)).off + i, none⟩ := fun i hi => by
    unfold Addr.add
    rw [if_neg (by omega)]
    by_cases h : j * 2 = 0
    · rw [h]; simp
    · simp [h, Nat.add_assoc]
  refine ⟨a, (x1, x2), ha, by rw [List.getElem?_eq_getElem hj, ← hx], fun w' hb => ⟨pw_cell_below hb (k3 0 _ rfl), ?_⟩⟩
  rw [← add_next 1 (by decide)]
  exact pw_cell_below hb (k3 1 _ rfl)
end Go.Proofs.Ytgbfhhmmkhjhhaa.Paths
namespace Go.Proofs.Ytgbfhhmmkhjhhaa.Paths
open Go.RowKit Go.Proofs.YtgbfhhmmkhjhhaaW.PrintWords Go.Proofs.YtgbfhhmmkhjhhaaW.PrintLast Go.Proofs.YtgbfhhmmkhjhhaaW.PrintMore Go.Proofs.Ytgbfhhmmkhjhhaa.HeapW Go.Proofs.Ytgbfhhmmkhjhhaa.HeapP Go.Proofs.Ytgbfhhmmkhjhhaa.MapAt Go.Proofs.Ytgbfhhmmkhjhhaa.Dij
open Go.Proofs.Ytgbfhhmmkhjhhaa.Roads (NetS outOf isN isN_iff nodeP roadP okP kPt kRd flat_keep Flat flatPt flatRd)
set_option linter.unusedVariables false
set_option linter.unusedSimpArgs false
/-- may a road be laid, as far as the first k roads say -/
def mayK (n : Nat) (R : List Rd) (x : Rd) (k : Nat) : Bool := decide ((0 ≤ x.1 ∧ x.1 < n ∧ 0 ≤ x.2.1 ∧ x.2.1 < n ∧ x.1 ≠ x.2.1 ∧ 1 ≤ x.2.2 ∧ x.2.2 ≤ 1048576) ∧ ∀ y ∈ R.take k, y.1 ≠ x.1 ∨ y.2.1 ≠ x.2.1)
theorem mayK_iff {n : Nat} {R : List Rd} {x : Rd} {k : Nat} : mayK n R x k = true ↔ (0 ≤ x.1 ∧ x.1 < n ∧ 0 ≤ x.2.1 ∧ x.2.1 < n ∧ x.1 ≠ x.2.1 ∧ 1 ≤ x.2.2 ∧ x.2.2 ≤ 1048576) ∧ ∀ y ∈ R.take k, y.1 ≠ x.1 ∨ y.2.1 ≠ x.2.1 := by
  unfold mayK
  rw [decide_eq_true_iff]
theorem mayK_no {n : Nat} {R : List Rd} {x : Rd} {k : Nat} (h : ¬ (0 ≤ x.1 ∧ x.1 < n ∧ 0 ≤ x.2.1 ∧ x.2.1 < n ∧ x.1 ≠ x.2.1 ∧ 1 ≤ x.2.2 ∧ x.2.2 ≤ 1048576)) : false = mayK n R x k := by
  symm
  rw [Bool.eq_false_iff]
  exact fun q => h (mayK_iff.1 q).1
theorem mayK_zero {n : Nat} {R : List Rd} {x : Rd} (h : 0 ≤ x.1 ∧ x.1 < n ∧ 0 ≤ x.2.1 ∧ x.2.1 < n ∧ x.1 ≠ x.2.1 ∧ 1 ≤ x.2.2 ∧ x.2.2 ≤ 1048576) : true = mayK n R x 0 := (mayK_iff.2 ⟨h, by simp⟩).symm
theorem mayK_stays {n : Nat} {R : List Rd} {x : Rd} {k : Nat} (h : false = mayK n R x k) : false = mayK n R x (k + 1) := by
  symm
  rw [Bool.eq_false_iff]
  intro q
  obtain ⟨h1, h2⟩ := mayK_iff.1 q
  have := mayK_iff.2 ⟨h1, fun y hy => h2 y (by rw [List.take_add_one]; exact List.mem_append.2 (Or.inl hy))⟩
  rw [← h] at this
  cases this
theorem mayK_next {n : Nat} {R : List Rd} {x y : Rd} {k : Nat} (h : true = mayK n R x k) (hy : R[k]? = some y) (hd : y.1 ≠ x.1 ∨ y.2.1 ≠ x.2.1) : true = mayK n R x (k + 1) := by
  obtain ⟨h1, h2⟩ := mayK_iff.1 h.symm
  refine (mayK_iff.2 ⟨h1, fun z hz => ?_⟩).symm
  rw [List.take_add_one, hy] at hz
  rcases List.mem_append.1 hz with q | q
  · exact h2 z q
  · simp at q
    rw [q]
    exact hd
theorem mayK_hit {n : Nat} {R : List Rd} {x y : Rd} {k : Nat} (hy : R[k]? = some y) (hd : ¬ (y.1 ≠ x.1 ∨ y.2.1 ≠ x.2.1)) : false = mayK n R x (k + 1) := by
  symm
  rw [Bool.eq_false_iff]
  intro q
  exact hd ((mayK_iff.1 q).2 y (by rw [List.take_add_one, hy]; exact List.mem_append.2 (Or.inr (by simp))))
theorem mayK_full (n : Nat) (R : List Rd) (x : Rd) : mayK n R x R.length = mayP n R x := by
  have e : mayK n R x R.length = true ↔ mayP n R x = true := by
    rw [mayK_iff, List.take_length]
    unfold mayP
    rw [Bool.and_eq_true, Bool.and_eq_true, Bool.and_eq_true, Bool.and_eq_true, Bool.and_eq_true, isN_iff, isN_iff, decide_eq_true_iff, decide_eq_true_iff, decide_eq_true_iff, List.all_eq_true]
    constructor
    · rintro ⟨⟨a, b, c, d, f, g, h⟩, i⟩
      exact ⟨⟨⟨⟨⟨⟨a, b⟩, c, d⟩, f⟩, g⟩, h⟩, fun y hy => by rw [decide_eq_true_iff]; exact i y hy⟩
    · rintro ⟨⟨⟨⟨⟨⟨a, b⟩, c, d⟩, f⟩, g⟩, h⟩, i⟩
      exact ⟨⟨a, b, c, d, f, g, h⟩, fun y hy => by have := i y hy; rwa [decide_eq_true_iff] at this⟩
  cases h1 : mayK n R x R.length <;> cases h2 : mayP n R x <;> simp_all
/-- the third box is written -/
theorem Three.set {W : World} {F : Nat → Prop} {gt gr gn : Nat} {a b : Obj} {cs : Array Value} {t : TypeId} (h : Three W F gt gr gn a b (.cells cs t (0, 0))) (h1 : gt ≠ gn) (h2 : gr ≠ gn) (i : Nat) (u : Value) : Three (W.setCell ⟨gn, i, none⟩ u) F gt gr gn a b (.cells (cs.setIfInBounds i u) t (0, 0)) where
  t := (Below.heap_setCell W ⟨gn, i, none⟩ u gt h1).trans h.t
  r := (Below.heap_setCell W ⟨gn, i, none⟩ u gr h2).trans h.r
  n := blk_set h.n i u
  ft := h.ft
  fr := h.fr
  fn := h.fn
theorem Three.setn {W : World} {F : Nat → Prop} {gt gr gn : Nat} {a b c : Obj} (h : Three W F gt gr gn a b c) {W' : World} {c' : Obj} (ht : W'.heap[gt]? = W.heap[gt]?) (hr : W'.heap[gr]? = W.heap[gr]?) (hn : W'.heap[gn]? = some c') : Three W' F gt gr gn a b c' :=
  ⟨ht.trans h.t, hr.trans h.r, hn, h.ft, h.fr, h.fn⟩
section
variable {α : Type} {d : Kd α} {e : Nat} {w W W' : World} {g : Nat} {F : Nat → Prop} {pv : Value} {qs : List α} {ps : List Roads.Pt} {out : List (List Rd)}
/-- a box of one's own is written -/
theorem Beside.box (hd : Flat d) (h : Beside d e w W g F pv qs ps out) {gn i : Nat} (u : Value) (hF : ¬ F gn) (hG : pv.ownBlock ≠ some gn) (hw : w.heap.size ≤ gn) : Beside d e w (W.setCell ⟨gn, i, none⟩ u) g F pv qs ps out := by
  have hc : Chg (· = gn) W (W.setCell ⟨gn, i, none⟩ u) := Chg.setCell (F := (· = gn)) (Chg.refl _ W) (p := ⟨gn, i, none⟩) (Or.inl rfl) u
  exact h.other hd hc (fun k hk q => hF (q ▸ hk)) (fun k hk q => hG (q ▸ hk)) (((Chg.of_below (F := (· = gn)) h.below).trans hc).below (Nat.le_refl _) (fun k hk => by have e : k = gn := hk; omega))
end
end Go.Proofs.Ytgbfhhmmkhjhhaa.Paths
