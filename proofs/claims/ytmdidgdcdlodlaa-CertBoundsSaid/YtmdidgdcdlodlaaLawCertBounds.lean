/- The row of the law CertBounds: for every input the call returns true, and each argument reads behind it as before. No condition. Written by wip/bin/row18.py out of the printed row. -/
import Derived.Test.YtmdidgdcdlodlaaRows
import Derived.Test.YtmdidgdcdlodlaaXWBounds
import Derived.Test.YtmdidgdcdlodlaaXRef2
import Derived.Test.YtmdidgdcdlodlaaOpen
import Derived.WalkKit
import Derived.ProofKit
import Derived.OpenShut
import Derived.ShutString
import Derived.ChangeOld
import Derived.Below
import Derived.SizedLaws
namespace Go.Proofs.Ytmdidgdcdlodlaa.certBounds
open Go.ChangeShapes Go.WideShapes Go.ChangeAt Go.RowKit Go.Proofs.Ytmdidgdcdlodlaa.Open Go.Proofs.Ytmdidgdcdlodlaa.Q Go.Proofs.YtmdidgdcdlodlaaW.PrintWords
open Go.ChangeMaps (open_string shut_string)
set_option linter.unusedVariables false
theorem own : ownKnob Try.prog.godebug = none := by kernel_rfl
theorem laidOut : laidOutB Try.prog = true := by kernel_rfl
set_option maxRecDepth 100000 in
theorem lifted (os : Os) (started : os.Started) (H : Type) (enc : TypeId × Value → H) :
    ReturnsInHanded {} Try.checked os 5 .any (Rows.certBoundsSpec.pre6 enc Try.prog Try.f5 Rows.certBoundsRow.domain false) (Rows.certBoundsSpec.post enc Try.prog Try.f5 false true false false) := by
  refine returnsInHanded_of_change_sized (C := Try.checked) own started (by kernel_rfl) Try.func5
    (ChangeSpec.witness6 (enc := enc) (C := Try.checked) false ⟨#[], #[.agg #[.int .i64 0, .int .i64 0, .slice none 0 0], .slice none 0 0, .slice none 0 0], []⟩ 8 (by kernel_rfl) (by kernel_rfl) (by kernel_rfl) (by kernel_rfl)) ?_
  intro W base args ds gs before hval0 hW hcnd hsz0 _
  have hsz : (DataW.weightsEach Try.prog (Try.f5.params.toList ++ Rows.certBoundsSpec.plain.varTypes Try.prog) (ds ++ gs)).all (· ≤ reachBytes) = true := hsz0
  have hval : ∀ (j : Nat) t v, Try.f5.params[j]? = some t → args[j]? = some v → Value.okWide Try.prog W .any base t v := hval0
  have hW' := hW
  obtain ⟨p, q, hA0, hV, rfl, hfz, hnd⟩ := hW
  have hA : DataW.TrodAll enc Try.prog W 0 (fun _ => true) true Try.f5.params.toList args.toList ds p := hA0
  rw [Try.params5] at hA hval hsz
  obtain ⟨v0, vs0, d0, ds0, p0, q0, hargs, rfl, rfl, h0, r0⟩ := trodAll_cons hA
  obtain ⟨v1, vs1, d1, ds1, p1, q1, rfl, rfl, rfl, h1, r1⟩ := trodAll_cons r0
  obtain ⟨v2, vs2, d2, ds2, p2, q2, rfl, rfl, rfl, h2, r2⟩ := trodAll_cons r1
  obtain ⟨rfl, rfl, rfl⟩ := trodAll_nil r2
  obtain rfl : args = #[v0, v1, v2] := by cases args; simp_all
  obtain ⟨rfl, rfl⟩ := trodVars_none hV
  have k0 := h0
  have lt0 : ∀ x ∈ p0, x.block < W.heap.size := by obtain ⟨m, hm⟩ := k0; exact DataW.trod_lt m _ _ _ hm
  obtain ⟨cs0, rfl, _⟩ := okWide_struct Try.underlying24 (hval 0 24 v0 rfl rfl)
  obtain ⟨fu0, hf0⟩ := h0
  obtain ⟨⟨a0_0, ⟨a0_1, l0_2⟩⟩, hK0, hO0⟩ := ((Opens.struct Try.underlying24 (by kernel_rfl) (Fields.cons (Opens.int Try.underlying3 (by kernel_rfl)) (Fields.cons (Opens.int Try.underlying3 (by kernel_rfl)) (Fields.one (Opens.slice 24 Try.underlying22 (by kernel_rfl) (by kernel_rfl) (Opens.iso (Opens.struct Try.underlying69 (by kernel_rfl) (Fields.cons (Opens.int Try.underlying3 (by kernel_rfl)) (Fields.cons (Opens.int Try.underlying3 (by kernel_rfl)) (Fields.one (Opens.int Try.underlying3 (by kernel_rfl)))))) (fun x_ : S69 => (x_.f0, x_.f1, x_.f2)) (fun a_ => ⟨a_.1, a_.2.1, a_.2.2⟩) (fun _ => rfl)))))))).get hf0
  have hok0 := hO0 (fun n_ hn_ => by simpa using List.all_eq_true.1 hsz _ (DataW.weights_mem_each (j := 0) (t := 24) rfl rfl n_ hn_))
  obtain ⟨cl0, hcl0⟩ : ∃ l, l = (Value.agg cs0).cells.toList := ⟨_, rfl⟩
  rw [← hcl0] at hK0
  obtain ⟨_, _, rfl, rfl, ⟨_, _, rfl, rfl, ⟨A0_2, c0_2, rfl, hc0_2, hr0_2⟩⟩⟩ := hK0
  obtain rfl : cs0 = #[.int .i64 a0_0, .int .i64 a0_1, .slice A0_2 l0_2.length c0_2] := by apply Array.ext'; simpa [Value.cells] using hcl0.symm
  have k1 := h1
  have lt1 : ∀ x ∈ p1, x.block < W.heap.size := by obtain ⟨m, hm⟩ := k1; exact DataW.trod_lt m _ _ _ hm
  obtain ⟨A1, n1, c1, rfl⟩ := okWide_slice Try.underlying26 (hval 1 26 v1 rfl rfl)
  obtain ⟨fu1, hf1⟩ := h1
  obtain ⟨l1, ⟨A_, c_, he1, hc1, hr1⟩, hO1⟩ := ((Opens.slice 8 Try.underlying26 (by kernel_rfl) (by kernel_rfl) (Opens.int Try.underlying3 (by kernel_rfl)))).get hf1
  have hok1 := hO1 (fun n_ hn_ => by simpa using List.all_eq_true.1 hsz _ (DataW.weights_mem_each (j := 1) (t := 26) rfl rfl n_ hn_))
  simp only [Value.cells, List.cons.injEq, Value.slice.injEq, and_true] at he1
  obtain ⟨rfl, rfl, rfl⟩ := he1
  have k2 := h2
  have lt2 : ∀ x ∈ p2, x.block < W.heap.size := by obtain ⟨m, hm⟩ := k2; exact DataW.trod_lt m _ _ _ hm
  obtain ⟨A2, n2, c2, rfl⟩ := okWide_slice Try.underlying26 (hval 2 26 v2 rfl rfl)
  obtain ⟨fu2, hf2⟩ := h2
  obtain ⟨l2, ⟨A_, c_, he2, hc2, hr2⟩, hO2⟩ := ((Opens.slice 8 Try.underlying26 (by kernel_rfl) (by kernel_rfl) (Opens.int Try.underlying3 (by kernel_rfl)))).get hf2
  have hok2 := hO2 (fun n_ hn_ => by simpa using List.all_eq_true.1 hsz _ (DataW.weights_mem_each (j := 2) (t := 26) rfl rfl n_ hn_))
  simp only [Value.cells, List.cons.injEq, Value.slice.injEq, and_true] at he2
  obtain ⟨rfl, rfl, rfl⟩ := he2
  clear hA0 hval0 hsz0 hsz
  have hreach : reachBytes = 140737488351232 := by decide +kernel
  refine (certBounds_walk a0_0 a0_1 _ _ l0_2 _ _ l1 _ _ l2 W hr0_2 hc0_2 (by have h_ : l0_2.length * 24 ≤ reachBytes := hok0.2.2.1; omega) hr1 hc1 (by have h_ : l1.length * 8 ≤ reachBytes := hok1.1; omega) hr2 hc2 (by have h_ : l2.length * 8 ≤ reachBytes := hok2.1; omega) (fun h1 h2 h3 => bounds_alike a0_0 a0_1 l0_2 l1 l2 (fun p hp => by have h_ : (Lit.int .i64 p).wf = true := hok1.2 p hp; simp [Lit.wf, IntKind.min, IntKind.max, IntKind.signed, IntKind.bits] at h_; omega) h1 h2 h3)).mono fun e W' ⟨he, bel⟩ => ?_
  subst he
  exact ⟨_, rfl, _, _, _, [], _, [], hW', trodAll_mk1 (shut_bool Try.underlying4 _), (trodAll_cons_mk (Below.trod laidOut (by kernel_rfl) (of_decide_eq_true (by kernel_rfl)) k0 bel lt0) (trodAll_cons_mk (Below.trod laidOut (by kernel_rfl) (of_decide_eq_true (by kernel_rfl)) k1 bel lt1) (trodAll_cons_mk (Below.trod laidOut (by kernel_rfl) (of_decide_eq_true (by kernel_rfl)) k2 bel lt2) trodAll_mk0))), rfl, bel.frame _, fun h => by cases h⟩
theorem over : Rows.certBoundsRow.holds Try.pinned (OpenSpec.ofChange Rows.certBoundsSpec) :=
  OpenClaim.holds_of_wide 5 Try.f5 rfl rfl rfl rfl rfl rfl rfl ⟨rfl, rfl, rfl, rfl, rfl⟩ rfl rfl rfl rfl rfl (by kernel_rfl) Try.func5 (by kernel_rfl)
    (of_decide_eq_true (by kernel_rfl)) (by unfold Func.isWrapper; first | (rw [if_pos (by decide +kernel)]; kernel_rfl) | (rw [if_neg (by decide +kernel)]; exact ⟨rfl, rfl⟩))
    (fun os started H enc _ => lifted os started H enc)
theorem proved : Rows.CertBoundsSaid := over
end Go.Proofs.Ytmdidgdcdlodlaa.certBounds
namespace Go.Proofs.Ytmdidgdcdlodlaa
/-- The row, under a short name, for the claim. -/
theorem certBounds_holds : Rows.CertBoundsSaid := certBounds.proved
#print axioms certBounds_holds
end Go.Proofs.Ytmdidgdcdlodlaa
