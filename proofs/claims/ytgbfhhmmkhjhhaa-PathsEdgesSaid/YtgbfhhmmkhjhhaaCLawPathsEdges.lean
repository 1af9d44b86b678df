/- The row of the law PathsEdges: for every input the call returns true, and each argument reads behind it as before. No condition. Written by wip/gen/row11.py. -/
import Derived.Test.YtgbfhhmmkhjhhaaRows
import Derived.Test.YtgbfhhmmkhjhhaaCPathsEd
import Derived.Test.YtgbfhhmmkhjhhaaCOpen
import Derived.WalkKit
import Derived.ProofKit
import Derived.OpenShut
import Derived.ShutString
import Derived.ChangeOld
import Derived.Below
import Derived.SizedLaws
namespace Go.Proofs.Ytgbfhhmmkhjhhaa.pathsEdges
open Go.ChangeShapes Go.WideShapes Go.ChangeAt Go.RowKit Go.Proofs.Ytgbfhhmmkhjhhaa.Open Go.Proofs.YtgbfhhmmkhjhhaaW.PrintWords
open Go.ChangeMaps (open_string shut_string)
set_option linter.unusedVariables false
theorem own : ownKnob Try.prog.godebug = none := by kernel_rfl
theorem laidOut : laidOutB Try.prog = true := by kernel_rfl
set_option maxRecDepth 100000 in
theorem lifted (os : Os) (started : os.Started) (H : Type) (enc : TypeId × Value → H) :
    ReturnsInHanded {} Try.checked os 3 .any (Rows.pathsEdgesSpec.pre6 enc Try.prog Try.f3 Rows.pathsEdgesRow.domain false) (Rows.pathsEdgesSpec.post enc Try.prog Try.f3 false true false false) := by
  refine returnsInHanded_of_change_sized (C := Try.checked) own started (by kernel_rfl) Try.func3
    (ChangeSpec.witness6 (enc := enc) (C := Try.checked) false ⟨#[], #[.agg #[.slice none 0 0, .slice none 0 0], .int .i64 0], []⟩ 8 (by kernel_rfl) (by kernel_rfl) (by kernel_rfl) (by kernel_rfl)) ?_
  intro W base args ds gs before hval0 hW hcnd hsz0 _
  have hsz : (DataW.weightsEach Try.prog (Try.f3.params.toList ++ Rows.pathsEdgesSpec.plain.varTypes Try.prog) (ds ++ gs)).all (· ≤ reachBytes) = true := hsz0
  have hval : ∀ (j : Nat) t v, Try.f3.params[j]? = some t → args[j]? = some v → Value.okWide Try.prog W .any base t v := hval0
  have hW' := hW
  obtain ⟨p, q, hA0, hV, rfl, hfz, hnd⟩ := hW
  have hA : DataW.TrodAll enc Try.prog W 0 (fun _ => true) true Try.f3.params.toList args.toList ds p := hA0
  rw [Try.params3] at hA hval hsz
  obtain ⟨v0, vs0, d0, ds0, p0, q0, hargs, rfl, rfl, h0, r0⟩ := trodAll_cons hA
  obtain ⟨v1, vs1, d1, ds1, p1, q1, rfl, rfl, rfl, h1, r1⟩ := trodAll_cons r0
  obtain ⟨rfl, rfl, rfl⟩ := trodAll_nil r1
  obtain rfl : args = #[v0, v1] := by cases args; simp_all
  obtain ⟨rfl, rfl⟩ := trodVars_none hV
  have k0 := h0
  have lt0 : ∀ x ∈ p0, x.block < W.heap.size := by obtain ⟨m, hm⟩ := k0; exact DataW.trod_lt m _ _ _ hm
  obtain ⟨cs0, rfl, _⟩ := okWide_struct Try.underlying25 (hval 0 25 v0 rfl rfl)
  obtain ⟨fu0, hf0⟩ := h0
  obtain ⟨⟨pl, rl⟩, hK0, hO0⟩ := ((Opens.struct Try.underlying25 (by kernel_rfl) (Fields.cons (Opens.slice 4 Try.underlying22 (by kernel_rfl) (by kernel_rfl) (Opens.struct Try.underlying59 (by kernel_rfl) (Fields.cons (Opens.int Try.underlying57 (by kernel_rfl)) (Fields.one (Opens.int Try.underlying57 (by kernel_rfl)))))) (Fields.one (Opens.slice 24 Try.underlying23 (by kernel_rfl) (by kernel_rfl) (Opens.struct Try.underlying40 (by kernel_rfl) (Fields.cons (Opens.int Try.underlying3 (by kernel_rfl)) (Fields.cons (Opens.int Try.underlying3 (by kernel_rfl)) (Fields.one (Opens.int Try.underlying3 (by kernel_rfl))))))))))).get hf0
  have hok0 := hO0 (fun n_ hn_ => by simpa using List.all_eq_true.1 hsz _ (DataW.weights_mem_each (j := 0) (t := 25) rfl rfl n_ hn_))
  obtain ⟨cl0, hcl0⟩ : ∃ l, l = (Value.agg cs0).cells.toList := ⟨_, rfl⟩
  rw [← hcl0] at hK0
  obtain ⟨_, _, rfl, ⟨PA, pc, rfl, hpc, hP⟩, ⟨RA, rc, rfl, hrc, hR⟩⟩ := hK0
  obtain rfl : cs0 = #[.slice PA pl.length pc, .slice RA rl.length rc] := by apply Array.ext'; simpa [Value.cells] using hcl0.symm
  have k1 := h1
  have lt1 : ∀ x ∈ p1, x.block < W.heap.size := by obtain ⟨m, hm⟩ := k1; exact DataW.trod_lt m _ _ _ hm
  obtain ⟨a1, rfl, rfl, rfl, hok1⟩ := open_int Try.underlying3 (hval 1 3 v1 rfl rfl) h1
  clear hA0 hval0 hsz0 hsz
  have hreach : reachBytes = 140737488351232 := by decide +kernel
  have hpl : pl.length ≤ 100000000000000 := by have h_ : pl.length * 4 ≤ reachBytes := hok0.1.1; omega
  have hrl : rl.length ≤ 5864062014634 := by have h_ : rl.length * 24 ≤ reachBytes := hok0.2.1; omega
  have hp : ∀ p ∈ pl, Roads.okP p := fun p hp => hok0.1.2 p hp
  refine (Paths.edges_walk PA RA pc rc pl rl a1 W hP hR hp hpl hrl).mono fun e W' ⟨he, bel⟩ => ?_
  subst he
  exact ⟨_, rfl, _, _, _, [], _, [], hW', trodAll_mk1 (shut_bool Try.underlying4 _), (trodAll_cons_mk (Below.trod laidOut (by kernel_rfl) (of_decide_eq_true (by kernel_rfl)) k0 bel lt0) (trodAll_cons_mk (Below.trod laidOut (by kernel_rfl) (of_decide_eq_true (by kernel_rfl)) k1 bel lt1) trodAll_mk0)), rfl, bel.frame _, fun h => by cases h⟩
theorem over : Rows.pathsEdgesRow.holds Try.pinned (OpenSpec.ofChange Rows.pathsEdgesSpec) :=
  OpenClaim.holds_of_wide 3 Try.f3 rfl rfl rfl rfl rfl rfl rfl ⟨rfl, rfl, rfl, rfl, rfl⟩ rfl rfl rfl rfl rfl (by kernel_rfl) Try.func3 (by kernel_rfl)
    (of_decide_eq_true (by kernel_rfl)) (by unfold Func.isWrapper; first | (rw [if_pos (by decide +kernel)]; kernel_rfl) | (rw [if_neg (by decide +kernel)]; exact ⟨rfl, rfl⟩))
    (fun os started H enc _ => lifted os started H enc)
theorem proved : Rows.PathsEdgesSaid := over
end Go.Proofs.Ytgbfhhmmkhjhhaa.pathsEdges
namespace Go.Proofs.Ytgbfhhmmkhjhhaa
/-- The row, under a short name, for the claim. -/
theorem pathsEdges_holds : Rows.PathsEdgesSaid := pathsEdges.proved
#print axioms pathsEdges_holds
end Go.Proofs.Ytgbfhhmmkhjhhaa
