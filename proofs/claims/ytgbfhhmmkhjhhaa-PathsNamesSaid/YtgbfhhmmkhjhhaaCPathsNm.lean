/- Paths: the walk of PathsNames. Conditions: those that stand in each theorem. Written in session 7. -/
import Derived.Test.YtgbfhhmmkhjhhaaCPathsTa
import Derived.Test.YtgbfhhmmkhjhhaaCPathsEVA
namespace Go.Proofs.Ytgbfhhmmkhjhhaa.Paths
open Go.RowKit Go.Proofs.YtgbfhhmmkhjhhaaW.PrintWords Go.Proofs.YtgbfhhmmkhjhhaaW.PrintLast Go.Proofs.YtgbfhhmmkhjhhaaW.PrintMore Go.Proofs.Ytgbfhhmmkhjhhaa.HeapW Go.Proofs.Ytgbfhhmmkhjhhaa.HeapP Go.Proofs.Ytgbfhhmmkhjhhaa.MapAt Go.Proofs.Ytgbfhhmmkhjhhaa.Dij
open Go.Proofs.Ytgbfhhmmkhjhhaa.HeapIR hiding It Pt kIt_K infoZ reps_single
open Go.Proofs.Ytgbfhhmmkhjhhaa.Roads (NetS outOf isN isN_iff Hd encH kHd flatHd)
set_option linter.unusedVariables false
set_option linter.unusedSimpArgs false
theorem from53 {c : List Int} (h : Dist 5 (outOf (out5 6)) 3 c) : c = [1, 3, 2, 0, -1] :=
  Dist.uniq net5 h (dist_of_B (s := 3) (by decide +kernel) (by decide +kernel))
theorem to54 {c : List Int} (h : DistTo 5 (outOf (out5 6)) 4 c) : c = [-1, -1, -1, -1, 0] :=
  DistTo.uniq net5 h (distTo_of_B (s := 4) (by decide +kernel) (by decide +kernel))
theorem way44 {c : List Int} {outf : Int → List Rd} {l : List Int} (h : WayR outf c 4 4 l) : l = [4] := WayR.uniq h WayR.stop
set_option maxHeartbeats 6400000 in
set_option maxRecDepth 100000 in
theorem table_zero {w : World} {base g : Nat} {ps : List Roads.Pt} {out : List (List Rd)} {F : Nat → Prop} (h : NetS w base g ps out F) (hb : base ≤ w.heap.size) :
    Calls Try.prog 19 #[.pointer (some ⟨g, 0, none⟩), .slice none 0 0] w fun e w' => Below w.heap.size w w' ∧ ∃ A oc, e = .returned (.tuple #[.slice A 0 oc, .int .i64 0]) := by
  have HCH := Aside0.mk (check_calls h hb none 0 [] (Kd.C_nil _ _) (by simp))
  have hck : checkP out.length [] = 0 := rfl
  rw [hck] at HCH
  clear h hb hck
  go_enter Try.func19, Try.ntmps19
  go_wp2_with fail
  refine HCH.out.mono ?_
  rintro e w1 ⟨rfl, hb1⟩
  have HB1 := Aside0.mk hb1
  clear hb1 HCH
  go_wp2_with (first | ((with_reducible refine gate_dst (N := 22) rfl ?_); refine Kd.R_make kHd (w0 := w) w.heap.size 32 rfl (N := 22) rfl 51 (.tmp 21) (.tmp 21) rfl 0 rfl rfl Try.underlying51 (.slice none 0 0) 24 infoHdi rfl (by decide) (by omega) ((none, 0, 0) : Hd) (ok := fun _ => True) (okp := fun _ => True) rfl (fun _ h => h) trivial (by omega) (by decide) HB1.out HB1.out.size ?_; intro u9 w9 h9 hb9 hg9 _; obtain ⟨A9, oc, hu9⟩ := Kd.R_slice h9; have hz : (List.replicate (Int.toNat 0) ((none, 0, 0) : Hd)).length = 0 := rfl; rw [hz] at hu9; subst hu9; have HB9 := Aside0.mk hb9; clear h9 hb9 hg9 hz) | ((with_reducible refine gate_upon ?_); go_simp))
  go_loopg [25] 0 (fun kq v25 w' => v25 = .int .i64 0 ∧ Aside0 (Below w.heap.size w w'))
  case atStart => exact ⟨by first | rfl | simp, HB9⟩
  case round =>
    clear HB9
    obtain ⟨rfl, HBW⟩ := hrel
    have hgt : decide ((0 : Int) < 0) = false := by decide
    go_wp2_with (first | fail | ((with_reducible refine gate_upon ?_); go_simp))
    refine bodyPost_ret (results_list (rs := [.tmp 4, .tmp 5]) rfl (by simp) (.tmp (.tmp .nil))) rfl ?_
    exact ⟨HBW.out, A9, oc, rfl⟩
section
variable {w : World} {base g : Nat} {ps : List Roads.Pt} {F : Nat → Prop}
theorem table353 (h : NetS w base g ps (out5 6) F) (hb : base ≤ w.heap.size) (A : Option Addr) (c : Nat) (hC : Kd.C kInt w A 3 [3, 0, 3]) : Calls Try.prog 19 #[.pointer (some ⟨g, 0, none⟩), .slice A 3 c] w fun e w' => Below w.heap.size w w' ∧ ∃ go oc A0 c0 A1 c1 A2 c2, e = .returned (.tuple #[.slice (some ⟨go, 0, none⟩) 3 oc, .int .i64 0]) ∧ ∀ W, Below w'.heap.size w' W → (W.cell? ⟨go, 0, none⟩ = some (.slice A0 3 c0) ∧ W.cell? ⟨go, 1, none⟩ = some (.slice A1 3 c1) ∧ W.cell? ⟨go, 2, none⟩ = some (.slice A2 3 c2)) ∧ Kd.C kInt W A0 3 [0, 1, 0] ∧ Kd.C kInt W A1 3 [7, 0, 7] ∧ Kd.C kInt W A2 3 [0, 1, 0] := by
  refine (table_calls h hb A c [3, 0, 3] hC (by simp) (by rw [len5]; decide +kernel) (by simp)).mono ?_
  rintro e w' ⟨h1, go, oc, hs, tab, rfl, hT, hrow⟩
  rw [len5] at hrow
  have one : ∀ (j : Nat) (r : List Int), j < 3 → r.length = 3 → tab[j]? = some r → ∃ A0 c0, ∀ W, Below w'.heap.size w' W → W.cell? ⟨go, j, none⟩ = some (.slice A0 3 c0) ∧ Kd.C kInt W A0 3 r := fun j r hj hr ht => by
    obtain ⟨⟨sA, sn, sc⟩, l, p1, p2, p3, p4, p5, _⟩ := hT.at_ (t := (j : Int)) (by omega) (by show (j : Int) < ((3 : Nat) : Int); omega)
    rw [Int.toNat_natCast] at p1 p2 p5
    rw [ht] at p2
    cases p2
    have p3' : sn = r.length := p3
    rw [hr] at p3'
    subst p3'
    refine ⟨sA, sc, fun W hW => ⟨pw_cell_below hW p5, ?_⟩⟩
    have h4 := (Kd.R_reads' (Kd.R_below p4 hW)).2.2
    rw [hr] at h4
    exact h4
  obtain ⟨d0, e0, r0⟩ := hrow 0 3 rfl
  obtain ⟨d1, e1, r1⟩ := hrow 1 0 rfl
  obtain ⟨d2, e2, r2⟩ := hrow 2 3 rfl
  rw [from53 e0] at r0
  rw [from5 e1] at r1
  rw [from53 e2] at r2
  obtain ⟨A0, c0, q0⟩ := one 0 [0, 1, 0] (by decide) rfl (r0.trans (by decide))
  obtain ⟨A1, c1, q1⟩ := one 1 [7, 0, 7] (by decide) rfl (r1.trans (by decide))
  obtain ⟨A2, c2, q2⟩ := one 2 [0, 1, 0] (by decide) rfl (r2.trans (by decide))
  exact ⟨h1, go, oc, A0, c0, A1, c1, A2, c2, rfl, fun W hW => ⟨⟨(q0 W hW).1, (q1 W hW).1, (q2 W hW).1⟩, (q0 W hW).2, (q1 W hW).2, (q2 W hW).2⟩⟩
theorem way04 (h : NetS w base g ps (out5 6) F) (hb : base ≤ w.heap.size) : Calls Try.prog 14 #[.pointer (some ⟨g, 0, none⟩), .int .i64 0, .int .i64 4] w fun e w' => e = .returned (.tuple #[.slice none 0 0, .int .i64 0, .int .i64 131]) ∧ Below w.heap.size w w' := by
  refine (way_any h hb (by rw [len5]; decide)).mono ?_
  rintro e w' ⟨c, hd, hb', hc⟩
  rw [len5] at hd
  have := to54 hd
  subst this
  rcases hc with ⟨_, q⟩ | ⟨q, _⟩
  · exact ⟨q, hb'⟩
  · exact absurd q (by decide)
theorem way44_calls (h : NetS w base g ps (out5 6) F) (hb : base ≤ w.heap.size) : Calls Try.prog 14 #[.pointer (some ⟨g, 0, none⟩), .int .i64 4, .int .i64 4] w fun e w' => Below w.heap.size w w' ∧ ∃ A cc, e = .returned (.tuple #[.slice A 1 cc, .int .i64 0, .int .i64 0]) ∧ Kd.C kInt w' A 1 [4] := by
  refine (way_any h hb (by rw [len5]; decide)).mono ?_
  rintro e w' ⟨c, hd, hb', hc⟩
  rw [len5] at hd
  have := to54 hd
  subst this
  rcases hc with ⟨q, _⟩ | ⟨_, gl, cc, l, rfl, hr, hw⟩
  · exact absurd q (by decide)
  · have := way44 hw
    subst this
    exact ⟨hb', _, cc, rfl, (Kd.R_reads' hr).2.2⟩
theorem withinM (h : NetS w base g ps (out5 6) F) (hb : base ≤ w.heap.size) : Calls Try.prog 20 #[.pointer (some ⟨g, 0, none⟩), .int .i64 0, .int .i64 (-1)] w fun e w' => Below w.heap.size w w' ∧ ∃ A cc, e = .returned (.tuple #[.slice A 0 cc, .int .i64 0]) := by
  refine (within_calls h hb 0 (-1)).mono ?_
  rintro e w' ⟨h1, h2⟩
  rw [len5] at h2
  rcases h2 with ⟨q, _⟩ | ⟨_, A, cc, c, o, rfl, hC, _, _, hd, ho⟩
  · exact absurd q (by decide)
  · have := from5 hd
    subst this
    have := ord5 ho
    subst this
    have e : withinP [0, 2, 1, 7, -1] [0, 2, 1, 3] (-1) = [] := by decide +kernel
    rw [e]
    exact ⟨h1, A, cc, rfl⟩
end
set_option maxHeartbeats 6400000 in
set_option maxRecDepth 100000 in
theorem names_walk (w : World) : Calls Try.prog 7 #[] w fun e w' => e = .returned (.bool true) ∧ Below w.heap.size w w' := by
  have qe := eql_ptr
  go_enter Try.func7, Try.ntmps7
  go_wp2_with fail
  refine (five_calls w).mono ?_
  rintro e w1 ⟨g, F, rfl, hn, hb⟩
  have HN := Aside0.mk hn
  have HB := Aside0.mk hb
  clear hn hb
  go_wp2_with fail
  refine (lives_calls w1).mono ?_
  rintro e w2 ⟨rfl, hb2⟩
  have HN2 := Aside0.mk (HN.out.below hb2)
  have HB2 := Aside0.mk (below_step HB.out hb2)
  clear hb2 HN HB
  go_wp2_with fail
  have hbx := below_alloc (Below.refl w2.heap.size w2) (.cells #[.int .i64 3, .int .i64 0, .int .i64 3] 3)
  refine (table353 (HN2.out.below hbx) (Nat.le_trans HB2.out.size hbx.size) _ 3 (c_of_box (cs := [3, 0, 3]) (blk_new w2 _) rfl (by simp))).mono ?_
  rintro e w3 ⟨hb3, go, oc, A0, c0, A1, c1, A2, c2, rfl, hT⟩
  have HT3 := Aside0.mk hT
  have HN3 := Aside0.mk (HN2.out.below (below_step hbx hb3))
  have HB3 := Aside0.mk (below_step HB2.out (below_step hbx hb3))
  clear hbx hb3 hT HN2 HB2
  go_wp2_with fail
  refine (table_zero HN3.out HB3.out.size).mono ?_
  rintro e w4 ⟨hb4, A4, c4, rfl⟩
  have HT4 : Aside0 (∀ W, Below w4.heap.size w4 W → _) := ⟨fun W h => HT3.out W (below_step hb4 h)⟩
  have HN4 := Aside0.mk (HN3.out.below hb4)
  have HB4 := Aside0.mk (below_step HB3.out hb4)
  clear hb4 HT3 HN3 HB3
  go_wp2_with fail
  refine (way04 HN4.out HB4.out.size).mono ?_
  rintro e w5 ⟨rfl, hb5⟩
  have HT5 : Aside0 (∀ W, Below w5.heap.size w5 W → _) := ⟨fun W h => HT4.out W (below_step hb5 h)⟩
  have HN5 := Aside0.mk (HN4.out.below hb5)
  have HB5 := Aside0.mk (below_step HB4.out hb5)
  clear hb5 HT4 HN4 HB4
  go_wp2_with fail
  refine (way_gone HN5.out HB5.out.size (fr := -1) (tv := 0) (by rw [len5]; decide)).mono ?_
  rintro e w6 ⟨rfl, hb6⟩
  have HT6 : Aside0 (∀ W, Below w6.heap.size w6 W → _) := ⟨fun W h => HT5.out W (below_step hb6 h)⟩
  have HN6 := Aside0.mk (HN5.out.below hb6)
  have HB6 := Aside0.mk (below_step HB5.out hb6)
  clear hb6 HT5 HN5 HB5
  go_wp2_with fail
  refine (way44_calls HN6.out HB6.out.size).mono ?_
  rintro e w7 ⟨hb7, A7, c7, rfl, hC7⟩
  have HT7 : Aside0 (∀ W, Below w7.heap.size w7 W → _) := ⟨fun W h => HT6.out W (below_step hb7 h)⟩
  have HC7 := Aside0.mk hC7
  have HN7 := Aside0.mk (HN6.out.below hb7)
  have HB7 := Aside0.mk (below_step HB6.out hb7)
  clear hb7 hC7 HT6 HN6 HB6
  go_wp2_with fail
  refine (withinM HN7.out HB7.out.size).mono ?_
  rintro e w8 ⟨hb8, A8, c8, rfl⟩
  have HT8 : Aside0 (∀ W, Below w8.heap.size w8 W → _) := ⟨fun W h => HT7.out W (below_step hb8 h)⟩
  have HC8 := Aside0.mk (Kd.C_below HC7.out hb8)
  have HB8 := Aside0.mk (below_step HB7.out hb8)
  clear hb8 HT7 HC7 HN7 HB7
  have dz : (((0 : Nat) : Int) == 0) = true := by decide
  go_wp2_with (first | fail | ((with_reducible refine gate_upon ?_); go_simp))
  refine (same_calls A7 _ c7 1 [4] [4] _ (Kd.C_alloc HC8.out _) (c_of_box (cs := [4]) (blk_new w8 _) rfl (by simp)) (by simp)).mono ?_
  rintro e w9 ⟨rfl, hb9⟩
  have hb89 := below_step (below_alloc (Below.refl w8.heap.size w8) _) hb9
  have HT9 : Aside0 (∀ W, Below w9.heap.size w9 W → _) := ⟨fun W h => HT8.out W (below_step hb89 h)⟩
  have HB9 := Aside0.mk (below_step HB8.out hb89)
  rw [show decide (([4] : List Int) = [4]) = true from by decide]
  clear hb9 hb89 HT8 HC8 HB8
  obtain ⟨⟨qa, -, -⟩, hC, -, -⟩ := HT9.out w9 (Below.refl _ _)
  have HC0 := Aside0.mk hC
  clear hC
  go_wp2_with (first | fail | ((with_reducible refine gate_upon ?_); go_simp))
  clear qa
  refine (same_calls A0 _ c0 3 [0, 1, 0] [0, 1, 0] _ (Kd.C_alloc HC0.out _) (c_of_box (cs := [0, 1, 0]) (blk_new w9 _) rfl (by simp)) (by simp)).mono ?_
  rintro e wa ⟨rfl, hba⟩
  have hb9a := below_step (below_alloc (Below.refl w9.heap.size w9) _) hba
  have HTa : Aside0 (∀ W, Below wa.heap.size wa W → _) := ⟨fun W h => HT9.out W (below_step hb9a h)⟩
  have HBa := Aside0.mk (below_step HB9.out hb9a)
  rw [show decide (([0, 1, 0] : List Int) = [0, 1, 0]) = true from by decide]
  clear hba hb9a HT9 HC0 HB9
  obtain ⟨⟨-, qa, -⟩, -, hC, -⟩ := HTa.out wa (Below.refl _ _)
  have HC0 := Aside0.mk hC
  clear hC
  go_wp2_with (first | fail | ((with_reducible refine gate_upon ?_); go_simp))
  clear qa
  refine (same_calls A1 _ c1 3 [7, 0, 7] [7, 0, 7] _ (Kd.C_alloc HC0.out _) (c_of_box (cs := [7, 0, 7]) (blk_new wa _) rfl (by simp)) (by simp)).mono ?_
  rintro e wb ⟨rfl, hbb⟩
  have hbab := below_step (below_alloc (Below.refl wa.heap.size wa) _) hbb
  have HTb : Aside0 (∀ W, Below wb.heap.size wb W → _) := ⟨fun W h => HTa.out W (below_step hbab h)⟩
  have HBb := Aside0.mk (below_step HBa.out hbab)
  rw [show decide (([7, 0, 7] : List Int) = [7, 0, 7]) = true from by decide]
  clear hbb hbab HTa HC0 HBa
  obtain ⟨⟨-, -, qa⟩, -, -, hC⟩ := HTb.out wb (Below.refl _ _)
  have HC0 := Aside0.mk hC
  clear hC
  go_wp2_with (first | fail | ((with_reducible refine gate_upon ?_); go_simp))
  clear qa
  refine (same_calls A2 _ c2 3 [0, 1, 0] [0, 1, 0] _ (Kd.C_alloc HC0.out _) (c_of_box (cs := [0, 1, 0]) (blk_new wb _) rfl (by simp)) (by simp)).mono ?_
  rintro e wc ⟨rfl, hbc⟩
  have HBc := Aside0.mk (below_step HBb.out (below_step (below_alloc (Below.refl wb.heap.size wb) _) hbc))
  rw [show decide (([0, 1, 0] : List Int) = [0, 1, 0]) = true from by decide]
  clear hbc HTb HC0 HBb
  go_wp2
  go_ret
  exact ⟨rfl, HBc.out⟩
end Go.Proofs.Ytgbfhhmmkhjhhaa.Paths
