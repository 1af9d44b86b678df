/- Roads: At, Grid; plane: Dist. Conditions: those that stand in each theorem. Written in session 7. -/
import Derived.Test.YtgbfhhmmkhjhhaaCPathsGp
import Derived.Test.YtgbfhhmmkhjhhaaCPathsEVA
namespace Go.Proofs.Ytgbfhhmmkhjhhaa.Paths
open Go.RowKit Go.Proofs.YtgbfhhmmkhjhhaaW.PrintWords Go.Proofs.YtgbfhhmmkhjhhaaW.PrintLast Go.Proofs.YtgbfhhmmkhjhhaaW.PrintMore Go.Proofs.Ytgbfhhmmkhjhhaa.HeapW Go.Proofs.Ytgbfhhmmkhjhhaa.HeapP Go.Proofs.Ytgbfhhmmkhjhhaa.MapAt Go.Proofs.Ytgbfhhmmkhjhhaa.Dij
open Go.Proofs.Ytgbfhhmmkhjhhaa.HeapIR hiding It Pt kIt_K infoZ reps_single
open Go.Proofs.Ytgbfhhmmkhjhhaa.Roads (NetS NetAt outOf isN isN_iff nodeP roadP okP kPt kRd)
set_option linter.unusedVariables false
set_option linter.unusedSimpArgs false
theorem infoPt : (Try.prog.info? 59).map (·.size) = some 2 := by kernel_rfl
set_option maxHeartbeats 3200000 in
set_option maxRecDepth 100000 in
theorem at_calls {w : World} {base g : Nat} {ps : List Roads.Pt} {out : List (List Rd)} {F : Nat → Prop} (h : NetS w base g ps out F) (i : Nat) {p : Roads.Pt} (hp : ps[i]? = some p) :
    Calls Try.prog 22 #[.pointer (some ⟨g, 0, none⟩), .int .i64 i] w fun e w' => e = .returned (.tuple #[.agg #[.int .i16 p.1, .int .i16 p.2], .bool true]) ∧ Below w.heap.size w w' := by
  have hb : Below w.heap.size w (w.alloc (.cells #[.int .i16 0, .int .i16 0] 59)) := below_alloc (Below.refl _ _) _
  obtain ⟨PA, pc, OA, oc, b, hs, h1, -, -⟩ := h.below hb
  have hil : i < ps.length := (List.getElem?_eq_some_iff.1 hp).1
  have HB := Aside0.mk hb
  have HX := Aside0.mk (blk_new w (.cells #[.int .i16 0, .int .i16 0] 59))
  have HH := h1.has (i : Int)
  rw [decide_eq_true (show 0 ≤ (i : Int) by omega), decide_eq_true (show (i : Int) < ps.length by omega)] at HH
  have HH := Aside0.mk HH
  obtain ⟨a, x, ha, hlx, hcx⟩ := pt_at (Kd.R_reads' h1.pts).2.2 rfl hil
  rw [hp] at hlx
  cases hlx
  obtain ⟨q0, q1⟩ := hcx _ (Below.refl _ _)
  obtain ⟨m, hm⟩ : ∃ m, m = ps.length := ⟨_, rfl⟩
  have hblk := h1.blk
  rw [← hm] at hblk
  have hg0 : (w.alloc (.cells #[.int .i16 0, .int .i16 0] 59)).cell? ⟨g, 0, none⟩ = some (.slice PA m pc) := (blk_cell hblk 0).trans rfl
  have him : (i : Int) < m := by omega
  have him2 : i < m := by omega
  subst ha
  clear h hb hp h1 hil hcx hm hblk
  go_enter Try.func22, Try.ntmps22
  go_wp2_with fail
  refine HH.out.mono ?_
  rintro e w1 ⟨rfl, hw⟩
  have hw := hw.symm
  subst hw
  clear HH
  go_wp2_with ((with_reducible refine gate_store (t := 59) (p := 4) (v := .tmp 17) rfl ?_); refine wpList_store_row rfl 59 (.tmp 4) (.tmp 17) rfl w.heap.size #[.int .i16 p.1, .int .i16 p.2] rfl rfl _ _ HX.out infoPt rfl (by simp [Value.oneCell']) ?_; have hs := chg_row (cs := #[.int .i16 p.1, .int .i16 p.2]) HX.out; have HX4 := Aside0.mk hs.1; have HB4 : Aside0 (Below w.heap.size w ((w.alloc (.cells #[.int .i16 0, .int .i16 0] 59)).setRow w.heap.size #[.int .i16 p.1, .int .i16 p.2])) := ⟨HB.out.trans (hs.2.below HB.out.size (fun k hk => by have e : k = w.heap.size := hk; omega))⟩; clear hs q0 q1 hg0)
  refine bodyPost_ret (results_list (rs := [.cell 4 59, .tmp 5]) rfl (by simp) (.cell w.heap.size 59 _ (0, 0) _ rfl HX4.out Try.underlying59 rfl infoPt (.tmp .nil))) rfl ?_
  exact ⟨rfl, HB4.out⟩
end Go.Proofs.Ytgbfhhmmkhjhhaa.Paths
