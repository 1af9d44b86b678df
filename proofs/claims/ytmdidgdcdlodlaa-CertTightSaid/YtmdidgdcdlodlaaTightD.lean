/- What functions of the program answer, each by a Lean function and the proof of its call; written by this session's program gp.py and by hand. Conditions: those that stand in each theorem. -/
import Derived.Test.YtmdidgdcdlodlaaQ0
import Derived.Test.YtmdidgdcdlodlaaQ14
namespace Go.Proofs.Ytmdidgdcdlodlaa.Q
open Go.RowKit Go.Proofs.YtmdidgdcdlodlaaW.PrintWords Go.Proofs.YtmdidgdcdlodlaaW.PrintLast Go.Proofs.YtmdidgdcdlodlaaW.PrintMore
attribute [local go_sem] max2_int min2_int max_two min_two max_three min_three max_four min_four   -- for this text's walks alone
set_option linter.unusedVariables false
set_option linter.unusedSimpArgs false

/-! ### cabstandlaw18_tight: function 28 -/
mutual
def cabstandlaw18_tight.j0 : Nat → Bool → Int → Int → List (S69) → List (S50) → List Int → List Int → Option (Bool)
 | 0, _, _, _, _, _, _, _ => none
 | k + 1, x26, x217000, x217001, x217002, x218000, x218001, x218002 => if x26 = true then (some false) else (if 0 ≤ x217000 then (if (x217000 : Int).toNat ≤ 281474976710656 then (if 0 ≤ x217001 then (if (x217001 : Int).toNat ≤ 281474976710656 then (cabstandlaw18_tight.l0 k (List.replicate (x217000 : Int).toNat false) (List.replicate (x217001 : Int).toNat false) 0 x217000 x217001 x217002 x218000 x218001 x218002) else (none)) else (none)) else (none)) else (none))
def cabstandlaw18_tight.l0 : Nat → List Bool → List Bool → Int → Int → Int → List (S69) → List (S50) → List Int → List Int → Option (Bool)
 | 0, _, _, _, _, _, _, _, _, _ => none
 | k + 1, x5, x6, x7, x217000, x217001, x217002, x218000, x218001, x218002 => if x7 < (x218000.length : Int) then (if 0 ≤ x7 then (if ((rd_T50 x218000 x7).f0) < 0 then (cabstandlaw18_tight.j2 k x5 x6 x7 true x217000 x217001 x217002 x218000 x218001 x218002 ((rd_T50 x218000 x7).f0) ((rd_T50 x218000 x7).f1)) else (if ((rd_T50 x218000 x7).f0) ≥ x217000 then (cabstandlaw18_tight.j2 k x5 x6 x7 true x217000 x217001 x217002 x218000 x218001 x218002 ((rd_T50 x218000 x7).f0) ((rd_T50 x218000 x7).f1)) else (if ((rd_T50 x218000 x7).f1) < 0 then (cabstandlaw18_tight.j2 k x5 x6 x7 true x217000 x217001 x217002 x218000 x218001 x218002 ((rd_T50 x218000 x7).f0) ((rd_T50 x218000 x7).f1)) else (if ((rd_T50 x218000 x7).f1) ≥ x217001 then (cabstandlaw18_tight.j2 k x5 x6 x7 true x217000 x217001 x217002 x218000 x218001 x218002 ((rd_T50 x218000 x7).f0) ((rd_T50 x218000 x7).f1)) else (if 0 ≤ ((rd_T50 x218000 x7).f0) then (if ((rd_T50 x218000 x7).f0) < (x5.length : Int) then (if rdOf false x5 ((rd_T50 x218000 x7).f0) = true then (cabstandlaw18_tight.j2 k x5 x6 x7 true x217000 x217001 x217002 x218000 x218001 x218002 ((rd_T50 x218000 x7).f0) ((rd_T50 x218000 x7).f1)) else (if 0 ≤ ((rd_T50 x218000 x7).f1) then (if ((rd_T50 x218000 x7).f1) < (x6.length : Int) then (if rdOf false x6 ((rd_T50 x218000 x7).f1) = true then (cabstandlaw18_tight.j2 k x5 x6 x7 true x217000 x217001 x217002 x218000 x218001 x218002 ((rd_T50 x218000 x7).f0) ((rd_T50 x218000 x7).f1)) else (if x7 > 0 then (if 0 ≤ (wrap64 (x7 - 1)) then (if (wrap64 (x7 - 1)) < (x218000.length : Int) then (cabstandlaw18_tight.j2 k x5 x6 x7 (decide (((rd_T50 x218000 (wrap64 (x7 - 1))).f0) ≥ ((rd_T50 x218000 x7).f0))) x217000 x217001 x217002 x218000 x218001 x218002 ((rd_T50 x218000 x7).f0) ((rd_T50 x218000 x7).f1)) else (none)) else (none)) else (cabstandlaw18_tight.j2 k x5 x6 x7 false x217000 x217001 x217002 x218000 x218001 x218002 ((rd_T50 x218000 x7).f0) ((rd_T50 x218000 x7).f1)))) else (none)) else (none))) else (none)) else (none)))))) else (none)) else (cabstandlaw18_tight.l1 k x5 x6 0 x217000 x217001 x217002 x218000 x218001 x218002)
def cabstandlaw18_tight.j2 : Nat → List Bool → List Bool → Int → Bool → Int → Int → List (S69) → List (S50) → List Int → List Int → Int → Int → Option (Bool)
 | 0, _, _, _, _, _, _, _, _, _, _, _, _ => none
 | k + 1, x5, x6, x7, x96, x217000, x217001, x217002, x218000, x218001, x218002, x226000, x226001 => if x96 = true then (some false) else ((cabstandlaw18_worth.f k x217000 x217001 x217002 (([(⟨x226000, x226001⟩ : S50)] : List (S50)))).bind fun t232 => (if t232 = 0 then (cabstandlaw18_tight.j3 k x5 x6 x7 true x217000 x217001 x217002 x218000 x218001 x218002 x226000 x226001) else (if 0 ≤ x226000 then (if x226000 < (x218001.length : Int) then (if (rd x218001 x226000) < 0 then (cabstandlaw18_tight.j3 k x5 x6 x7 true x217000 x217001 x217002 x218000 x218001 x218002 x226000 x226001) else (if (rd x218001 x226000) > t232 then (cabstandlaw18_tight.j3 k x5 x6 x7 true x217000 x217001 x217002 x218000 x218001 x218002 x226000 x226001) else (if 0 ≤ x226001 then (if x226001 < (x218002.length : Int) then (cabstandlaw18_tight.j3 k x5 x6 x7 ((rd x218002 x226001) != (wrap64 (t232 - (rd x218001 x226000)))) x217000 x217001 x217002 x218000 x218001 x218002 x226000 x226001) else (none)) else (none)))) else (none)) else (none))))
def cabstandlaw18_tight.j3 : Nat → List Bool → List Bool → Int → Bool → Int → Int → List (S69) → List (S50) → List Int → List Int → Int → Int → Option (Bool)
 | 0, _, _, _, _, _, _, _, _, _, _, _, _ => none
 | k + 1, x5, x6, x7, x138, x217000, x217001, x217002, x218000, x218001, x218002, x226000, x226001 => if x138 = true then (some false) else (if 0 ≤ x226000 then (if x226000 < (x5.length : Int) then (if 0 ≤ x226001 then (if x226001 < (x6.length : Int) then (cabstandlaw18_tight.l0 k (x5.set (x226000 : Int).toNat true) (x6.set (x226001 : Int).toNat true) (wrap64 (x7 + 1)) x217000 x217001 x217002 x218000 x218001 x218002) else (none)) else (none)) else (none)) else (none))
def cabstandlaw18_tight.l1 : Nat → List Bool → List Bool → Int → Int → Int → List (S69) → List (S50) → List Int → List Int → Option (Bool)
 | 0, _, _, _, _, _, _, _, _, _ => none
 | k + 1, x5, x6, x10, x217000, x217001, x217002, x218000, x218001, x218002 => if x10 < x217000 then (if 0 ≤ x10 then (if x10 < (x5.length : Int) then (if rdOf false x5 x10 = true then (cabstandlaw18_tight.l1 k x5 x6 (wrap64 (x10 + 1)) x217000 x217001 x217002 x218000 x218001 x218002) else (if x10 < (x218001.length : Int) then (if (rd x218001 x10) = 0 then (cabstandlaw18_tight.l1 k x5 x6 (wrap64 (x10 + 1)) x217000 x217001 x217002 x218000 x218001 x218002) else (some false)) else (none))) else (none)) else (none)) else (cabstandlaw18_tight.l2 k x6 0 x217000 x217001 x217002 x218000 x218001 x218002)
def cabstandlaw18_tight.l2 : Nat → List Bool → Int → Int → Int → List (S69) → List (S50) → List Int → List Int → Option (Bool)
 | 0, _, _, _, _, _, _, _, _ => none
 | k + 1, x6, x11, x217000, x217001, x217002, x218000, x218001, x218002 => if x11 < x217001 then (if 0 ≤ x11 then (if x11 < (x6.length : Int) then (if rdOf false x6 x11 = true then (cabstandlaw18_tight.l2 k x6 (wrap64 (x11 + 1)) x217000 x217001 x217002 x218000 x218001 x218002) else (if x11 < (x218002.length : Int) then (if (rd x218002 x11) = 0 then (cabstandlaw18_tight.l2 k x6 (wrap64 (x11 + 1)) x217000 x217001 x217002 x218000 x218001 x218002) else (some false)) else (none))) else (none)) else (none)) else (cabstandlaw18_tight.l3 k 0 x217000 x217001 x217002 x218000 x218001 x218002)
def cabstandlaw18_tight.l3 : Nat → Int → Int → Int → List (S69) → List (S50) → List Int → List Int → Option (Bool)
 | 0, _, _, _, _, _, _, _ => none
 | k + 1, x12, x217000, x217001, x217002, x218000, x218001, x218002 => if x12 < (x217002.length : Int) then (if 0 ≤ x12 then (if 0 ≤ ((rd_T69 x217002 x12).f0) then (if ((rd_T69 x217002 x12).f0) < (x218001.length : Int) then (if 0 ≤ ((rd_T69 x217002 x12).f1) then (if ((rd_T69 x217002 x12).f1) < (x218002.length : Int) then (if (wrap64 ((rd x218001 ((rd_T69 x217002 x12).f0)) + (rd x218002 ((rd_T69 x217002 x12).f1)))) < ((rd_T69 x217002 x12).f2) then (some false) else (cabstandlaw18_tight.l3 k (wrap64 (x12 + 1)) x217000 x217001 x217002 x218000 x218001 x218002)) else (none)) else (none)) else (none)) else (none)) else (none)) else (some true)
end
def cabstandlaw18_tight.f (k : Nat) (a0_0 : Int) (a0_1 : Int) (l0_2 : List (S69)) (l1_0 : List (S50)) (l1_1 : List Int) (l1_2 : List Int) : Option (Bool) := if (l1_1.length : Int) = a0_0 then (cabstandlaw18_tight.j0 k ((l1_2.length : Int) != a0_1) a0_0 a0_1 l0_2 l1_0 l1_1 l1_2) else (cabstandlaw18_tight.j0 k true a0_0 a0_1 l0_2 l1_0 l1_1 l1_2)
theorem cabstandlaw18_tight.mono_l : ∀ k, (∀ y0 y1 y2 y3 y4 y5 y6, LeO (cabstandlaw18_tight.j0 k y0 y1 y2 y3 y4 y5 y6) (cabstandlaw18_tight.j0 (k + 1) y0 y1 y2 y3 y4 y5 y6)) ∧ (∀ y0 y1 y2 y3 y4 y5 y6 y7 y8, LeO (cabstandlaw18_tight.l0 k y0 y1 y2 y3 y4 y5 y6 y7 y8) (cabstandlaw18_tight.l0 (k + 1) y0 y1 y2 y3 y4 y5 y6 y7 y8)) ∧ (∀ y0 y1 y2 y3 y4 y5 y6 y7 y8 y9 y10 y11, LeO (cabstandlaw18_tight.j2 k y0 y1 y2 y3 y4 y5 y6 y7 y8 y9 y10 y11) (cabstandlaw18_tight.j2 (k + 1) y0 y1 y2 y3 y4 y5 y6 y7 y8 y9 y10 y11)) ∧ (∀ y0 y1 y2 y3 y4 y5 y6 y7 y8 y9 y10 y11, LeO (cabstandlaw18_tight.j3 k y0 y1 y2 y3 y4 y5 y6 y7 y8 y9 y10 y11) (cabstandlaw18_tight.j3 (k + 1) y0 y1 y2 y3 y4 y5 y6 y7 y8 y9 y10 y11)) ∧ (∀ y0 y1 y2 y3 y4 y5 y6 y7 y8, LeO (cabstandlaw18_tight.l1 k y0 y1 y2 y3 y4 y5 y6 y7 y8) (cabstandlaw18_tight.l1 (k + 1) y0 y1 y2 y3 y4 y5 y6 y7 y8)) ∧ (∀ y0 y1 y2 y3 y4 y5 y6 y7, LeO (cabstandlaw18_tight.l2 k y0 y1 y2 y3 y4 y5 y6 y7) (cabstandlaw18_tight.l2 (k + 1) y0 y1 y2 y3 y4 y5 y6 y7)) ∧ (∀ y0 y1 y2 y3 y4 y5 y6, LeO (cabstandlaw18_tight.l3 k y0 y1 y2 y3 y4 y5 y6) (cabstandlaw18_tight.l3 (k + 1) y0 y1 y2 y3 y4 y5 y6))
 | 0 => ⟨fun _ _ _ _ _ _ _ r h => by simp [cabstandlaw18_tight.j0] at h, fun _ _ _ _ _ _ _ _ _ r h => by simp [cabstandlaw18_tight.l0] at h, fun _ _ _ _ _ _ _ _ _ _ _ _ r h => by simp [cabstandlaw18_tight.j2] at h, fun _ _ _ _ _ _ _ _ _ _ _ _ r h => by simp [cabstandlaw18_tight.j3] at h, fun _ _ _ _ _ _ _ _ _ r h => by simp [cabstandlaw18_tight.l1] at h, fun _ _ _ _ _ _ _ _ r h => by simp [cabstandlaw18_tight.l2] at h, fun _ _ _ _ _ _ _ r h => by simp [cabstandlaw18_tight.l3] at h⟩
 | k + 1 => by
  obtain ⟨ih0, ih1, ih2, ih3, ih4, ih5, ih6⟩ := cabstandlaw18_tight.mono_l k
  refine ⟨?_, ?_, ?_, ?_, ?_, ?_, ?_⟩
  ·intro y0 y1 y2 y3 y4 y5 y6
   unfold cabstandlaw18_tight.j0
   repeat' first
   | (with_reducible exact ih0 _ _ _ _ _ _ _)
   | (with_reducible exact ih1 _ _ _ _ _ _ _ _ _)
   | (with_reducible exact ih2 _ _ _ _ _ _ _ _ _ _ _ _)
   | (with_reducible exact ih3 _ _ _ _ _ _ _ _ _ _ _ _)
   | (with_reducible exact ih4 _ _ _ _ _ _ _ _ _)
   | (with_reducible exact ih5 _ _ _ _ _ _ _ _)
   | (with_reducible exact ih6 _ _ _ _ _ _ _)
   | (with_reducible exact cabstandlaw18_worth.mono _ _ _ _ _)
   | (with_reducible exact LeO.refl _)
   | (with_reducible exact LeO.none _)
   | (with_reducible refine LeO.ite ?_ ?_)
   | (with_reducible refine LeO.bind ?_ (fun _ => ?_))
   | exact ih0 _ _ _ _ _ _ _
   | exact ih1 _ _ _ _ _ _ _ _ _
   | exact ih2 _ _ _ _ _ _ _ _ _ _ _ _
   | exact ih3 _ _ _ _ _ _ _ _ _ _ _ _
   | exact ih4 _ _ _ _ _ _ _ _ _
   | exact ih5 _ _ _ _ _ _ _ _
   | exact ih6 _ _ _ _ _ _ _
   | exact cabstandlaw18_worth.mono _ _ _ _ _
   | exact LeO.none _
   | refine LeO.ite ?_ ?_
   | refine LeO.bind ?_ (fun _ => ?_)
  ·intro y0 y1 y2 y3 y4 y5 y6 y7 y8
   unfold cabstandlaw18_tight.l0
   repeat' first
   | (with_reducible exact ih0 _ _ _ _ _ _ _)
   | (with_reducible exact ih1 _ _ _ _ _ _ _ _ _)
   | (with_reducible exact ih2 _ _ _ _ _ _ _ _ _ _ _ _)
   | (with_reducible exact ih3 _ _ _ _ _ _ _ _ _ _ _ _)
   | (with_reducible exact ih4 _ _ _ _ _ _ _ _ _)
   | (with_reducible exact ih5 _ _ _ _ _ _ _ _)
   | (with_reducible exact ih6 _ _ _ _ _ _ _)
   | (with_reducible exact cabstandlaw18_worth.mono _ _ _ _ _)
   | (with_reducible exact LeO.refl _)
   | (with_reducible exact LeO.none _)
   | (with_reducible refine LeO.ite ?_ ?_)
   | (with_reducible refine LeO.bind ?_ (fun _ => ?_))
   | exact ih0 _ _ _ _ _ _ _
   | exact ih1 _ _ _ _ _ _ _ _ _
   | exact ih2 _ _ _ _ _ _ _ _ _ _ _ _
   | exact ih3 _ _ _ _ _ _ _ _ _ _ _ _
   | exact ih4 _ _ _ _ _ _ _ _ _
   | exact ih5 _ _ _ _ _ _ _ _
   | exact ih6 _ _ _ _ _ _ _
   | exact cabstandlaw18_worth.mono _ _ _ _ _
   | exact LeO.none _
   | refine LeO.ite ?_ ?_
   | refine LeO.bind ?_ (fun _ => ?_)
  ·intro y0 y1 y2 y3 y4 y5 y6 y7 y8 y9 y10 y11
   unfold cabstandlaw18_tight.j2
   repeat' first
   | (with_reducible exact ih0 _ _ _ _ _ _ _)
   | (with_reducible exact ih1 _ _ _ _ _ _ _ _ _)
   | (with_reducible exact ih2 _ _ _ _ _ _ _ _ _ _ _ _)
   | (with_reducible exact ih3 _ _ _ _ _ _ _ _ _ _ _ _)
   | (with_reducible exact ih4 _ _ _ _ _ _ _ _ _)
   | (with_reducible exact ih5 _ _ _ _ _ _ _ _)
   | (with_reducible exact ih6 _ _ _ _ _ _ _)
   | (with_reducible exact cabstandlaw18_worth.mono _ _ _ _ _)
   | (with_reducible exact LeO.refl _)
   | (with_reducible exact LeO.none _)
   | (with_reducible refine LeO.ite ?_ ?_)
   | (with_reducible refine LeO.bind ?_ (fun _ => ?_))
   | exact ih0 _ _ _ _ _ _ _
   | exact ih1 _ _ _ _ _ _ _ _ _
   | exact ih2 _ _ _ _ _ _ _ _ _ _ _ _
   | exact ih3 _ _ _ _ _ _ _ _ _ _ _ _
   | exact ih4 _ _ _ _ _ _ _ _ _
   | exact ih5 _ _ _ _ _ _ _ _
   | exact ih6 _ _ _ _ _ _ _
   | exact cabstandlaw18_worth.mono _ _ _ _ _
   | exact LeO.none _
   | refine LeO.ite ?_ ?_
   | refine LeO.bind ?_ (fun _ => ?_)
  ·intro y0 y1 y2 y3 y4 y5 y6 y7 y8 y9 y10 y11
   unfold cabstandlaw18_tight.j3
   repeat' first
   | (with_reducible exact ih0 _ _ _ _ _ _ _)
   | (with_reducible exact ih1 _ _ _ _ _ _ _ _ _)
   | (with_reducible exact ih2 _ _ _ _ _ _ _ _ _ _ _ _)
   | (with_reducible exact ih3 _ _ _ _ _ _ _ _ _ _ _ _)
   | (with_reducible exact ih4 _ _ _ _ _ _ _ _ _)
   | (with_reducible exact ih5 _ _ _ _ _ _ _ _)
   | (with_reducible exact ih6 _ _ _ _ _ _ _)
   | (with_reducible exact cabstandlaw18_worth.mono _ _ _ _ _)
   | (with_reducible exact LeO.refl _)
   | (with_reducible exact LeO.none _)
   | (with_reducible refine LeO.ite ?_ ?_)
   | (with_reducible refine LeO.bind ?_ (fun _ => ?_))
   | exact ih0 _ _ _ _ _ _ _
   | exact ih1 _ _ _ _ _ _ _ _ _
   | exact ih2 _ _ _ _ _ _ _ _ _ _ _ _
   | exact ih3 _ _ _ _ _ _ _ _ _ _ _ _
   | exact ih4 _ _ _ _ _ _ _ _ _
   | exact ih5 _ _ _ _ _ _ _ _
   | exact ih6 _ _ _ _ _ _ _
   | exact cabstandlaw18_worth.mono _ _ _ _ _
   | exact LeO.none _
   | refine LeO.ite ?_ ?_
   | refine LeO.bind ?_ (fun _ => ?_)
  ·intro y0 y1 y2 y3 y4 y5 y6 y7 y8
   unfold cabstandlaw18_tight.l1
   repeat' first
   | (with_reducible exact ih0 _ _ _ _ _ _ _)
   | (with_reducible exact ih1 _ _ _ _ _ _ _ _ _)
   | (with_reducible exact ih2 _ _ _ _ _ _ _ _ _ _ _ _)
   | (with_reducible exact ih3 _ _ _ _ _ _ _ _ _ _ _ _)
   | (with_reducible exact ih4 _ _ _ _ _ _ _ _ _)
   | (with_reducible exact ih5 _ _ _ _ _ _ _ _)
   | (with_reducible exact ih6 _ _ _ _ _ _ _)
   | (with_reducible exact cabstandlaw18_worth.mono _ _ _ _ _)
   | (with_reducible exact LeO.refl _)
   | (with_reducible exact LeO.none _)
   | (with_reducible refine LeO.ite ?_ ?_)
   | (with_reducible refine LeO.bind ?_ (fun _ => ?_))
   | exact ih0 _ _ _ _ _ _ _
   | exact ih1 _ _ _ _ _ _ _ _ _
   | exact ih2 _ _ _ _ _ _ _ _ _ _ _ _
   | exact ih3 _ _ _ _ _ _ _ _ _ _ _ _
   | exact ih4 _ _ _ _ _ _ _ _ _
   | exact ih5 _ _ _ _ _ _ _ _
   | exact ih6 _ _ _ _ _ _ _
   | exact cabstandlaw18_worth.mono _ _ _ _ _
   | exact LeO.none _
   | refine LeO.ite ?_ ?_
   | refine LeO.bind ?_ (fun _ => ?_)
  ·intro y0 y1 y2 y3 y4 y5 y6 y7
   unfold cabstandlaw18_tight.l2
   repeat' first
   | (with_reducible exact ih0 _ _ _ _ _ _ _)
   | (with_reducible exact ih1 _ _ _ _ _ _ _ _ _)
   | (with_reducible exact ih2 _ _ _ _ _ _ _ _ _ _ _ _)
   | (with_reducible exact ih3 _ _ _ _ _ _ _ _ _ _ _ _)
   | (with_reducible exact ih4 _ _ _ _ _ _ _ _ _)
   | (with_reducible exact ih5 _ _ _ _ _ _ _ _)
   | (with_reducible exact ih6 _ _ _ _ _ _ _)
   | (with_reducible exact cabstandlaw18_worth.mono _ _ _ _ _)
   | (with_reducible exact LeO.refl _)
   | (with_reducible exact LeO.none _)
   | (with_reducible refine LeO.ite ?_ ?_)
   | (with_reducible refine LeO.bind ?_ (fun _ => ?_))
   | exact ih0 _ _ _ _ _ _ _
   | exact ih1 _ _ _ _ _ _ _ _ _
   | exact ih2 _ _ _ _ _ _ _ _ _ _ _ _
   | exact ih3 _ _ _ _ _ _ _ _ _ _ _ _
   | exact ih4 _ _ _ _ _ _ _ _ _
   | exact ih5 _ _ _ _ _ _ _ _
   | exact ih6 _ _ _ _ _ _ _
   | exact cabstandlaw18_worth.mono _ _ _ _ _
   | exact LeO.none _
   | refine LeO.ite ?_ ?_
   | refine LeO.bind ?_ (fun _ => ?_)
  ·intro y0 y1 y2 y3 y4 y5 y6
   unfold cabstandlaw18_tight.l3
   repeat' first
   | (with_reducible exact ih0 _ _ _ _ _ _ _)
   | (with_reducible exact ih1 _ _ _ _ _ _ _ _ _)
   | (with_reducible exact ih2 _ _ _ _ _ _ _ _ _ _ _ _)
   | (with_reducible exact ih3 _ _ _ _ _ _ _ _ _ _ _ _)
   | (with_reducible exact ih4 _ _ _ _ _ _ _ _ _)
   | (with_reducible exact ih5 _ _ _ _ _ _ _ _)
   | (with_reducible exact ih6 _ _ _ _ _ _ _)
   | (with_reducible exact cabstandlaw18_worth.mono _ _ _ _ _)
   | (with_reducible exact LeO.refl _)
   | (with_reducible exact LeO.none _)
   | (with_reducible refine LeO.ite ?_ ?_)
   | (with_reducible refine LeO.bind ?_ (fun _ => ?_))
   | exact ih0 _ _ _ _ _ _ _
   | exact ih1 _ _ _ _ _ _ _ _ _
   | exact ih2 _ _ _ _ _ _ _ _ _ _ _ _
   | exact ih3 _ _ _ _ _ _ _ _ _ _ _ _
   | exact ih4 _ _ _ _ _ _ _ _ _
   | exact ih5 _ _ _ _ _ _ _ _
   | exact ih6 _ _ _ _ _ _ _
   | exact cabstandlaw18_worth.mono _ _ _ _ _
   | exact LeO.none _
   | refine LeO.ite ?_ ?_
   | refine LeO.bind ?_ (fun _ => ?_)
theorem cabstandlaw18_tight.mono : ∀ a0 a1 a2 a3 a4 a5 k, LeO (cabstandlaw18_tight.f k a0 a1 a2 a3 a4 a5) (cabstandlaw18_tight.f (k + 1) a0 a1 a2 a3 a4 a5) := by
 intro a0 a1 a2 a3 a4 a5 k
 obtain ⟨ih0, ih1, ih2, ih3, ih4, ih5, ih6⟩ := cabstandlaw18_tight.mono_l k
 unfold cabstandlaw18_tight.f
 repeat' first
   | (with_reducible exact ih0 _ _ _ _ _ _ _)
   | (with_reducible exact ih1 _ _ _ _ _ _ _ _ _)
   | (with_reducible exact ih2 _ _ _ _ _ _ _ _ _ _ _ _)
   | (with_reducible exact ih3 _ _ _ _ _ _ _ _ _ _ _ _)
   | (with_reducible exact ih4 _ _ _ _ _ _ _ _ _)
   | (with_reducible exact ih5 _ _ _ _ _ _ _ _)
   | (with_reducible exact ih6 _ _ _ _ _ _ _)
   | (with_reducible exact cabstandlaw18_worth.mono _ _ _ _ _)
   | (with_reducible exact LeO.refl _)
   | (with_reducible exact LeO.none _)
   | (with_reducible refine LeO.ite ?_ ?_)
   | (with_reducible refine LeO.bind ?_ (fun _ => ?_))
   | exact ih0 _ _ _ _ _ _ _
   | exact ih1 _ _ _ _ _ _ _ _ _
   | exact ih2 _ _ _ _ _ _ _ _ _ _ _ _
   | exact ih3 _ _ _ _ _ _ _ _ _ _ _ _
   | exact ih4 _ _ _ _ _ _ _ _ _
   | exact ih5 _ _ _ _ _ _ _ _
   | exact ih6 _ _ _ _ _ _ _
   | exact cabstandlaw18_worth.mono _ _ _ _ _
   | exact LeO.none _
   | refine LeO.ite ?_ ?_
   | refine LeO.bind ?_ (fun _ => ?_)
end Go.Proofs.Ytmdidgdcdlodlaa.Q
