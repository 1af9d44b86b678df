/- The row of the law CertChecks: for every input the call returns true, and each argument reads behind it as before. No condition. Written out of the printed row of CertTight. -/
import Derived.Test.YtmdidgdcdlodlaaRows
import Derived.Test.YtmdidgdcdlodlaaXWChecks
import Derived.Test.YtmdidgdcdlodlaaOpen
import Derived.WalkKit
import Derived.ProofKit
import Derived.OpenShut
import Derived.ShutString
import Derived.ChangeOld
import Derived.Below
import Derived.SizedLaws
namespace Go.Proofs.Ytmdidgdcdlodlaa.certChecks
open Go.ChangeShapes Go.WideShapes Go.ChangeAt Go.RowKit Go.Proofs.Ytmdidgdcdlodlaa.Open Go.Proofs.Ytmdidgdcdlodlaa.Q Go.Proofs.YtmdidgdcdlodlaaW.PrintWords
open Go.ChangeMaps (open_string shut_string)
set_option linter.unusedVariables false
theorem own : ownKnob Try.prog.godebug = none := by kernel_rfl
theorem laidOut : laidOutB Try.prog = true := by kernel_rfl
set_option maxRecDepth 100000 in
theorem lifted (os : Os) (started : os.Started) (H : Type) (enc : TypeId × Value → H) :
    ReturnsInHanded {} Try.checked os 3 .any (Rows.certChecksSpec.pre6 enc Try.prog Try.f3 Rows.certChecksRow.domain false) (Rows.certChecksSpec.post enc Try.prog Try.f3 false true false false) := by
  refine returnsInHanded_of_change_sized (C := Try.checked) own started (by kernel_rfl) Try.func3
    (ChangeSpec.witness6 (enc := enc) (C := Try.checked) false ⟨#[], #[.agg #[.int .i64 0, .int .i64 0, .slice none 0 0], .agg #[.slice none 0 0, .slice none 0 0, .slice none 0 0]], []⟩ 8 (by kernel_rfl) (by kernel_rfl) (by kernel_rfl) (by kernel_rfl)) ?_
  intro W base args ds gs before hval0 hW hcnd hsz0 _
  have hsz : (DataW.weightsEach Try.prog (Try.f3.params.toList ++ Rows.certChecksSpec.plain.varTypes Try.prog) (ds ++ gs)).all (· ≤ reachBytes) = true := hsz0
  have hval : ∀ (j : Nat) t v, Try.f3.params[j]? = some t → args[j]? = some v → Value.okWide Try.prog W .any base t v := hval0
  have hW' := hW
  obtain ⟨p, q, hA0, hV, rfl, hfz, hnd⟩ := hW
  have hA : DataW.TrodAll enc Try.prog W 0 (fun _ => true) true Try.f3.params.toList args.toList ds p := hA0
  rw [Try.params3] at hA hval hsz
  obtain ⟨v0, vs0, d0, ds0, p0, q0, hargs, rfl, rfl, h0, r0⟩ := trodAll_cons hA
  obtain ⟨v1, vs1, d1, ds1, p1, q1, rfl, rfl, rfl, h1, r1⟩ := trodAll_cons r0
  obtain ⟨rfl, rfl, rfl⟩ := trodAll_nil r1
  obtain rfl : args = #[v0, v1] := by cases args; simp_all
  obtain ⟨rfl, rfl⟩ := trodVars_none hV
  have k0 := h0
  have lt0 : ∀ x ∈ p0, x.block < W.heap.size := by obtain ⟨m, hm⟩ := k0; exact DataW.trod_lt m _ _ _ hm
  obtain ⟨cs0, rfl, _⟩ := okWide_struct Try.underlying24 (hval 0 24 v0 rfl rfl)
  obtain ⟨fu0, hf0⟩ := h0
  obtain ⟨⟨a0_0, ⟨a0_1, l0_2⟩⟩, hK0, hO0⟩ := ((Opens.struct Try.underlying24 (by kernel_rfl) (Fields.cons (Opens.int Try.underlying3 (by kernel_rfl)) (Fields.cons (Opens.int Try.underlying3 (by kernel_rfl)) (Fields.one (Opens.slice 24 Try.underlying22 (by kernel_rfl) (by kernel_rfl) (Opens.iso (Opens.struct Try.underlying69 (by kernel_rfl) (Fields.cons (Opens.int Try.underlying3 (by kernel_rfl)) (Fields.cons (Opens.int Try.underlying3 (by kernel_rfl)) (Fields.one (Opens.int Try.underlying3 (by kernel_rfl)))))) (fun x_ : S69 => (x_.f0, x_.f1, x_.f2)) (fun a_ => ⟨a_.1, a_.2.1, a_.2.2⟩) (fun _ => rfl)))))))).get hf0
  have hok0 := hO0 (fun n_ hn_ => by simpa using List.all_eq_true.1 hsz _ (DataW.weights_mem_each (j := 0) (t := 24) rfl rfl n_ hn_))
  obtain ⟨cl0, hcl0⟩ : ∃ l, l = (Value.agg cs0).cells.toList := ⟨_, rfl⟩
  rw [← hcl0] at hK0
  obtain ⟨_, _, rfl, rfl, ⟨_, _, rfl, rfl, ⟨A0_2, c0_2, rfl, hc0_2, hr0_2⟩⟩⟩ := hK0
  obtain rfl : cs0 = #[.int .i64 a0_0, .int .i64 a0_1, .slice A0_2 l0_2.length c0_2] := by apply Array.ext'; simpa [Value.cells] using hcl0.symm
  have k1 := h1
  have lt1 : ∀ x ∈ p1, x.block < W.heap.size := by obtain ⟨m, hm⟩ := k1; exact DataW.trod_lt m _ _ _ hm
  obtain ⟨cs1, rfl, _⟩ := okWide_struct Try.underlying28 (hval 1 28 v1 rfl rfl)
  obtain ⟨fu1, hf1⟩ := h1
  obtain ⟨⟨l1_0, ⟨l1_1, l1_2⟩⟩, hK1, hO1⟩ := ((Opens.struct Try.underlying28 (by kernel_rfl) (Fields.cons (Opens.slice 16 Try.underlying25 (by kernel_rfl) (by kernel_rfl) (Opens.iso (Opens.struct Try.underlying50 (by kernel_rfl) (Fields.cons (Opens.int Try.underlying3 (by kernel_rfl)) (Fields.one (Opens.int Try.underlying3 (by kernel_rfl))))) (fun x_ : S50 => (x_.f0, x_.f1)) (fun a_ => ⟨a_.1, a_.2⟩) (fun _ => rfl))) (Fields.cons (Opens.slice 8 Try.underlying26 (by kernel_rfl) (by kernel_rfl) (Opens.int Try.underlying3 (by kernel_rfl))) (Fields.one (Opens.slice 8 Try.underlying26 (by kernel_rfl) (by kernel_rfl) (Opens.int Try.underlying3 (by kernel_rfl)))))))).get hf1
  have hok1 := hO1 (fun n_ hn_ => by simpa using List.all_eq_true.1 hsz _ (DataW.weights_mem_each (j := 1) (t := 28) rfl rfl n_ hn_))
  obtain ⟨cl1, hcl1⟩ : ∃ l, l = (Value.agg cs1).cells.toList := ⟨_, rfl⟩
  rw [← hcl1] at hK1
  obtain ⟨_, _, rfl, ⟨A1_0, c1_0, rfl, hc1_0, hr1_0⟩, ⟨_, _, rfl, ⟨A1_1, c1_1, rfl, hc1_1, hr1_1⟩, ⟨A1_2, c1_2, rfl, hc1_2, hr1_2⟩⟩⟩ := hK1
  obtain rfl : cs1 = #[.slice A1_0 l1_0.length c1_0, .slice A1_1 l1_1.length c1_1, .slice A1_2 l1_2.length c1_2] := by apply Array.ext'; simpa [Value.cells] using hcl1.symm
  clear hA0 hval0 hsz0 hsz
  have hreach : reachBytes = 140737488351232 := by decide +kernel
  refine (certChecks_walk a0_0 a0_1 A0_2 c0_2 l0_2 A1_0 c1_0 l1_0 A1_1 c1_1 l1_1 A1_2 c1_2 l1_2 W hr0_2 hc0_2 (by have h_ : l0_2.length * 24 ≤ reachBytes := hok0.2.2.1; omega) hr1_0 hc1_0 (by have h_ : l1_0.length * 16 ≤ reachBytes := hok1.1.1; omega) hr1_1 hc1_1 (by have h_ : l1_1.length * 8 ≤ reachBytes := hok1.2.1.1; omega) hr1_2 hc1_2 (by have h_ : l1_2.length * 8 ≤ reachBytes := hok1.2.2.1; omega) (fun p hp => (bounds_i64 (hok1.2.1.2 p hp)).2)).mono fun e W' ⟨he, bel⟩ => ?_
  subst he
  exact ⟨_, rfl, _, _, _, [], _, [], hW', trodAll_mk1 (shut_bool Try.underlying4 _), (trodAll_cons_mk (Below.trod laidOut (by kernel_rfl) (of_decide_eq_true (by kernel_rfl)) k0 bel lt0) (trodAll_cons_mk (Below.trod laidOut (by kernel_rfl) (of_decide_eq_true (by kernel_rfl)) k1 bel lt1) trodAll_mk0)), rfl, bel.frame _, fun h => by cases h⟩
theorem over : Rows.certChecksRow.holds Try.pinned (OpenSpec.ofChange Rows.certChecksSpec) :=
  OpenClaim.holds_of_wide 3 Try.f3 rfl rfl rfl rfl rfl rfl rfl ⟨rfl, rfl, rfl, rfl, rfl⟩ rfl rfl rfl rfl rfl (by kernel_rfl) Try.func3 (by kernel_rfl)
    (of_decide_eq_true (by kernel_rfl)) (by unfold Func.isWrapper; first | (rw [if_pos (by decide +kernel)]; kernel_rfl) | (rw [if_neg (by decide +kernel)]; exact ⟨rfl, rfl⟩))
    (fun os started H enc _ => lifted os started H enc)
theorem proved : Rows.CertChecksSaid := over
end Go.Proofs.Ytmdidgdcdlodlaa.certChecks
namespace Go.Proofs.Ytmdidgdcdlodlaa
/-- The row, under a short name, for the claim. -/
theorem certChecks_holds : Rows.CertChecksSaid := certChecks.proved
#print axioms certChecks_holds
end Go.Proofs.Ytmdidgdcdlodlaa
